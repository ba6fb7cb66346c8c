import Derived.Test.YtcflkcbogofgbaaGreatDoorQX
set_option maxHeartbeats 16000000
set_option maxRecDepth 100000
namespace Go.Proofs.YtcflkcbogofgbaaGreatDoor
open Go.RowKit Go.Proofs
theorem ay.slice{w:World}{B:Nat}{v:Value}{l:af}(h:ay w B v l):∃ A c,v=.slice A l.length c∧ar w A (l.map aM)∧l.length≤c∧(A=none→c=0):=ak h
theorem aP.bad{w w':World}{O:Nat→Prop}{g:Nat}{vB vT vL:Value}{left st ends:Int}{b L:af}{ts:List aJ}{c:Int}(h:dU w O g vB vT vL false 0 left b st L ends ts)(hs:Sm No w w'):
 aP w O g (.bad c) (.returned (.tuple #[])) (w'.setCell ⟨g,3,none⟩ (.int .i64 c)):=by
 have h2:=(h.no hs).upd ((Sm.refl _ w').set1 3 (.int .i64 c)) (((h.no hs).bk.set 3 _).eq rfl) (Or.inl ⟨rfl,rfl⟩);exact⟨vB,rfl,⟨_,_,_,_,_,_,_,_,h2.1.mono hs h⟩,(hs.any _).tt h2.2⟩
theorem vg.after{w w1 w2:World}{O:Nat→Prop}{g:Nat}{vB:Value}{q:ej}(h:vg w1 (aA O w w1) g vB q)(hO:∀ x,O x→x < w.heap.size)(h1:w.heap.size≤w1.heap.size)(hs:Sm No w1 w2):vg w2 (aA O w w2) g vB q:=by
 have k:∀ x,aA O w w1 x→aA O w w2 x:=fun x e=>e.elim Or.inl (fun e=>Or.inr ⟨e.1,Nat.lt_of_lt_of_le e.2 hs.size⟩);have lt:=aA.lt hO (Nat.le_trans h1 hs.size)
 cases q with
 |«at» b p=>obtain⟨a,b,c,h,d⟩:=h;exact⟨a,b,c,(h.no hs).imp k lt,d⟩
 |whole b=>obtain⟨a1,a2,a3,a4,a5,a6,a7,h⟩:=h;exact⟨a1,a2,a3,a4,a5,a6,a7,(h.no hs).imp k lt⟩
 |bad s=>obtain⟨a1,a2,a3,a4,a5,a6,a7,a8,h⟩:=h;exact⟨a1,a2,a3,a4,a5,a6,a7,a8,(h.no hs).imp k lt⟩
theorem aP.after{w w1 w2:World}{O:Nat→Prop}{g:Nat}{q:ej}{e:Ending}(h:aP w O g q e w1)(hO:∀ x,O x→x < w.heap.size)(hs:Sm No w1 w2):aP w O g q e w2:=by
 obtain⟨vB,h1,h2,h3⟩:=h;exact⟨vB,h1,h2.after hO h3.size hs,h3.trans hs (fun _ _ e=>e.elim)⟩
theorem vg.up{w w1 w2:World}{O:Nat→Prop}{g:Nat}{vB:Value}{q:ej}(h:vg w2 (aA (aA O w w1) w1 w2) g vB q)(hO:∀ x,O x→x < w.heap.size)(h1:w.heap.size≤w1.heap.size)(h2:w1.heap.size≤w2.heap.size):vg w2 (aA O w w2) g vB q:=by
 cases q with
 |«at» b p=>obtain⟨a,b,c,h,d⟩:=h;exact⟨a,b,c,h.up hO h1 h2,d⟩
 |whole b=>obtain⟨a1,a2,a3,a4,a5,a6,a7,h⟩:=h;exact⟨a1,a2,a3,a4,a5,a6,a7,h.up hO h1 h2⟩
 |bad s=>obtain⟨a1,a2,a3,a4,a5,a6,a7,a8,h⟩:=h;exact⟨a1,a2,a3,a4,a5,a6,a7,a8,h.up hO h1 h2⟩
theorem aP.up{w w1 w2:World}{O:Nat→Prop}{g:Nat}{q:ej}{e:Ending}(h:aP w1 (aA O w w1) g q e w2)(hO:∀ x,O x→x < w.heap.size)(hs:Sm O w w1):aP w O g q e w2:=by
 obtain⟨vB,h1,h2,h3⟩:=h;exact⟨vB,h1,h2.up hO hs.size h3.size,hs.up h3⟩
theorem By.pre{w:World}{g:Nat}{l:af}(h:By w g l)(n:Nat):By w g (l.take n):=⟨h.1,fun j c hj=>h.2 j c (by
 rw [List.getElem?_take] at hj;split at hj
 ·exact hj
 ·cases hj)⟩
theorem iu{w:World}{B g cap:Nat}{l:af}(h:ay w B (.slice (some ⟨g,0,none⟩) l.length cap) l):l.length≤cap:=by
 obtain⟨A,c,hv,_,hc,_⟩:=ak h;injection hv with _ _ hv;omega
theorem CX(w:World)(O:Nat→Prop)(g:Nat)(vB vT vL:Value)(b:af)(c:UInt8)(n:Nat)(hn2:n≤16777216)(hI:dU w O g vB vT vL false 0 n b 1 [] 0 [])(hb:b.length≤1000000)(hn:n=1):Calls Tryz.prog 171 #[.pointer (some ⟨g,0,none⟩),.int .u8 c.toNat] w (aP w O g (.at (b++[c]) (.tail 0))):=by
 subst hn;obtain⟨A,cp,hv, -⟩:=hI.body.slice;subst hv;have hgl:=hI.bk.lt;have hcg:=hI.bk.all;have hzg:=hI.bk.fz;have HI:=ns hI;clear hI;go_in;go_wp2_with (at_builtin;refine aH rfl _ _ rfl c (.slice A b.length cp) b rfl HI.out.body rfl (by omega) ?_;intro v' w5 hO5 hs5 hv5;have hb5:=HI.out.bk.sm hs5 HI.out.neB;have hc5:=hb5.all;have hz5:=hb5.fz;have hl5:=hb5.lt;obtain⟨A5,cp5,hv6, -⟩:=hO5.slice;have hv7:v'=.slice A5 (b.length+1) cp5:=hv6.trans (by simp);clear hv6;subst hv7;have H5:=ns (BT hb5 (BT hO5 (BT hs5 hv5)));clear hO5 hs5 hv5 hb5)
 go_end0
 obtain⟨hb5,hO5,hs5,hv5⟩:=H5.out;have h:=HI.out.putB hO5 hs5 hv5 (((((Sm.refl _ w5).set1 0 _).set1 6 (.int .i64 0)).set1 4 (.int .i64 2)).set1 5 (.slice none 0 0)) (((((hb5.set 0 _).set 6 (.int .i64 0)).set 4 (.int .i64 2)).set 5 (.slice none 0 0)).eq rfl) (Or.inr ⟨rfl,rfl⟩);exact⟨_,rfl,⟨vT,.slice none 0 0,0,h.1,trivial⟩,h.2⟩
theorem DB(w:World)(O:Nat→Prop)(g:Nat)(vB vT vL:Value)(b:af)(c:UInt8)(n:Nat)(hn2:n≤16777216)(hI:dU w O g vB vT vL false 0 n b 1 [] 0 [])(hb:b.length≤1000000)(hn:1 < n):Calls Tryz.prog 171 #[.pointer (some ⟨g,0,none⟩),.int .u8 c.toNat] w (aP w O g (.at (b++[c]) (.data (n-1)))):=by
 have e1:((n:Int)-1==0)=false:=by rw [beq_eq_false_iff_ne];omega
 have e2:(1:Int)≤(n:Int):=by omega
 have e3:(n:Int)≤16777216:=by omega
 obtain⟨A,cp,hv, -⟩:=hI.body.slice;subst hv;have hgl:=hI.bk.lt;have hcg:=hI.bk.all;have hzg:=hI.bk.fz;have HI:=ns hI;clear hI;go_in;go_wp2_with (at_builtin;refine aH rfl _ _ rfl c (.slice A b.length cp) b rfl HI.out.body rfl (by omega) ?_;intro v' w5 hO5 hs5 hv5;have hb5:=HI.out.bk.sm hs5 HI.out.neB;have hc5:=hb5.all;have hz5:=hb5.fz;have hl5:=hb5.lt;obtain⟨A5,cp5,hv6, -⟩:=hO5.slice;have hv7:v'=.slice A5 (b.length+1) cp5:=hv6.trans (by simp);clear hv6;subst hv7;have H5:=ns (BT hb5 (BT hO5 (BT hs5 hv5)));clear hO5 hs5 hv5 hb5)
 go_end0
 obtain⟨hb5,hO5,hs5,hv5⟩:=H5.out;have h:=HI.out.putB hO5 hs5 hv5 (((Sm.refl _ w5).set1 0 _).set1 6 (.int .i64 ((n:Int)-1))) (((hb5.set 0 _).set 6 (.int .i64 ((n:Int)-1))).eq rfl) (Or.inl ⟨rfl,rfl⟩);exact⟨_,rfl,⟨vT,vL,(n:Int)-1,h.1,by show (n:Int)-1=((n-1:Nat):Int);omega⟩,h.2⟩
theorem yP(w:World)(O:Nat→Prop)(g:Nat)(vB vT vL:Value)(left:Int)(b:af)(c:UInt8)(hI:dU w O g vB vT vL false 0 left b 2 ([]) 0 [])(hc:c≠13):Calls Tryz.prog 171 #[.pointer (some ⟨g,0,none⟩),.int .u8 c.toNat] w (aP w O g (.bad 400)):=by
 obtain⟨A,cp,hv, -⟩:=hI.line.slice;subst hv;have hgl:=hI.bk.lt;have hcg:=hI.bk.all;have hzg:=hI.bk.fz;have HI:=ns hI;clear hI;have e1:((c.toNat:Int)==13)=false:=aK (n:=13) (by decide) hc;have e2:((c.toNat:Int) != 13)=true:=by simpa using e1
 clear hc;go_in;go_wp2_with fail
 go_end0
 exact(aP.bad HI.out (Sm.refl No w)).after HI.out.lt ((Sm.refl No _).alloc _)
theorem A8(w:World)(O:Nat→Prop)(g:Nat)(vB vT vL:Value)(left:Int)(b:af)(c:UInt8)(hI:dU w O g vB vT vL false 0 left b 2 ([]) 0 [])(hc:c=13):Calls Tryz.prog 171 #[.pointer (some ⟨g,0,none⟩),.int .u8 c.toNat] w (aP w O g (.at b (.tail 1))):=by
 obtain⟨A,cp,hv, -⟩:=hI.line.slice;subst hv;subst hc;have hgl:=hI.bk.lt;have hcg:=hI.bk.all;have hzg:=hI.bk.fz;have HI:=ns hI;clear hI;go_in;go_upto_region 9 with fail;obtain⟨wA,hwA⟩:∃ wA,w.alloc (.cells #[.int .u8 13,.int .u8 10] 5)=wA:=⟨_,rfl⟩;have hsA:Sm No w wA:=by rw [←hwA];exact(Sm.refl No w).alloc _
 have hIA:=HI.out.no hsA;rw [hwA];have hcA:=hIA.bk.all;have hzA:=hIA.bk.fz;have hlA:=hIA.bk.lt;have HA:=ns (BT hsA hIA);clear hwA hsA hIA hcg hzg;go_wp2_with (at_builtin;refine aH rfl _ _ rfl 13 (.slice A 0 cp) ([]) rfl HA.out.2.line rfl (by decide) ?_;intro v' w5 hO5 hs5 hv5;have hb5:=HA.out.2.bk.sm hs5 HA.out.2.neL;have hc5:=hb5.all;have hz5:=hb5.fz;have hl5:=hb5.lt;obtain⟨A5,cp5,hv6, -⟩:=hO5.slice;have hv7:v'=.slice A5 1 cp5:=hv6.trans (by simp);clear hv6;subst hv7;have H5:=ns (BT hb5 (BT hO5 (BT hs5 hv5)));clear hO5 hs5 hv5 hb5)
 go_end0
 obtain⟨hb5,hO5,hs5,hv5⟩:=H5.out;have h:=HA.out.2.putL hO5 hs5 hv5 ((Sm.refl _ w5).set1 5 (.slice A5 1 cp5)) ((hb5.set 5 _).eq rfl) (Or.inl ⟨rfl,rfl⟩);exact⟨vB,rfl,⟨vT,_,left,h.1.mono HA.out.1 HI.out,trivial⟩,(HA.out.1.any O).tt h.2⟩
theorem Aw(w:World)(O:Nat→Prop)(g:Nat)(vB vT vL:Value)(left:Int)(b:af)(c:UInt8)(hI:dU w O g vB vT vL false 0 left b 2 ([13]) 0 [])(hc:c≠10):Calls Tryz.prog 171 #[.pointer (some ⟨g,0,none⟩),.int .u8 c.toNat] w (aP w O g (.bad 400)):=by
 obtain⟨A,cp,hv, -⟩:=hI.line.slice;subst hv;have hgl:=hI.bk.lt;have hcg:=hI.bk.all;have hzg:=hI.bk.fz;have HI:=ns hI;clear hI;have e1:((c.toNat:Int)==10)=false:=aK (n:=10) (by decide) hc;have e2:((c.toNat:Int) != 10)=true:=by simpa using e1
 clear hc;go_in;go_wp2_with fail
 go_end0
 exact(aP.bad HI.out (Sm.refl No w)).after HI.out.lt ((Sm.refl No _).alloc _)
theorem yS(w:World)(O:Nat→Prop)(g:Nat)(vB vT vL:Value)(left:Int)(b:af)(c:UInt8)(hI:dU w O g vB vT vL false 0 left b 2 ([13]) 0 [])(hc:c=10):Calls Tryz.prog 171 #[.pointer (some ⟨g,0,none⟩),.int .u8 c.toNat] w (aP w O g (.at b (.size []))):=by
 obtain⟨A,cp,hv, -⟩:=hI.line.slice;subst hv;subst hc;have hgl:=hI.bk.lt;have hcg:=hI.bk.all;have hzg:=hI.bk.fz;have HI:=ns hI;clear hI;go_in;go_upto_region 9 with fail;obtain⟨wA,hwA⟩:∃ wA,w.alloc (.cells #[.int .u8 13,.int .u8 10] 5)=wA:=⟨_,rfl⟩;have hsA:Sm No w wA:=by rw [←hwA];exact(Sm.refl No w).alloc _
 have hIA:=HI.out.no hsA;rw [hwA];have hcA:=hIA.bk.all;have hzA:=hIA.bk.fz;have hlA:=hIA.bk.lt;have HA:=ns (BT hsA hIA);clear hwA hsA hIA hcg hzg;go_wp2_with (at_builtin;refine aH rfl _ _ rfl 10 (.slice A 1 cp) ([13]) rfl HA.out.2.line rfl (by decide) ?_;intro v' w5 hO5 hs5 hv5;have hb5:=HA.out.2.bk.sm hs5 HA.out.2.neL;have hc5:=hb5.all;have hz5:=hb5.fz;have hl5:=hb5.lt;obtain⟨A5,cp5,hv6, -⟩:=hO5.slice;have hv7:v'=.slice A5 2 cp5:=hv6.trans (by simp);clear hv6;subst hv7;have H5:=ns (BT hb5 (BT hO5 (BT hs5 hv5)));clear hO5 hs5 hv5 hb5)
 go_end0
 obtain⟨hb5,hO5,hs5,hv5⟩:=H5.out;have h:=HA.out.2.putL hO5 hs5 hv5 ((((Sm.refl _ w5).set1 5 (.slice A5 2 cp5)).set1 4 (.int .i64 0)).set1 5 (.slice none 0 0)) ((((hb5.set 5 _).set 4 (.int .i64 0)).set 5 (.slice none 0 0)).eq rfl) (Or.inr ⟨rfl,rfl⟩);exact⟨vB,rfl,⟨vT,.slice none 0 0,left,h.1.mono HA.out.1 HI.out,trivial⟩,(HA.out.1.any O).tt h.2⟩
theorem wg(w:World)(O:Nat→Prop)(g:Nat)(vB vT vL:Value)(left:Int)(b:af)(c:UInt8)(hI:dU w O g vB vT vL false 0 left b 0 [] 0 [])(hc:c=10):Calls Tryz.prog 171 #[.pointer (some ⟨g,0,none⟩),.int .u8 c.toNat] w (aP w O g (.bad 400)):=by
 obtain⟨A,cp,hv, -⟩:=hI.line.slice;subst hv hc;have hgl:=hI.bk.lt;have hcg:=hI.bk.all;have hzg:=hI.bk.fz;have HI:=ns hI;clear hI;go_in;go_wp2_with fail
 go_end0
 exact aP.bad HI.out (Sm.refl No w)
theorem wV(w:World)(O:Nat→Prop)(g:Nat)(vB vT vL:Value)(left:Int)(b:af)(c:UInt8)(l:af)(hI:dU w O g vB vT vL false 0 left b 0 l 0 [])(hl:l.length≤300)(h0:0 < l.length)(h13:∀ h:l.length-1 < l.length,l[l.length-1]≠13)(hc:c=10):Calls Tryz.prog 171 #[.pointer (some ⟨g,0,none⟩),.int .u8 c.toNat] w (aP w O g (.bad 400)):=by
 obtain⟨A,cp,hv,hR,hcp, -⟩:=hI.line.slice;subst hv;have hlt:l.length-1 < l.length:=by omega
 obtain⟨bb,off,rfl,hbb,r0⟩:=hR.at (j:=l.length-1) (u:=.int .u8 (l[l.length-1]).toNat) (by simp [hlt,aM]);obtain⟨y,hy⟩:=Iu (l[l.length-1]);rw [hy] at r0;have k0:(0:Int) < (l.length:Int):=by omega
 have k2:(0:Int)≤(l.length:Int)-1:=by omega
 have k3:((l.length:Int)-1).toNat=l.length-1:=by omega
 have k4:((l.length:Int)==0)=false:=by rw [beq_eq_false_iff_ne];omega
 have k5:(l.length:Int)≤(cp:Int):=by omega
 have k6:(l.length:Int)≤1000:=by omega
 have e1:((y.toNat:Int)==13)=false:=aK (n:=13) (by decide) (by rw [←hy];exact h13 hlt);have e2:((y.toNat:Int) != 13)=true:=by simpa using e1
 clear hy h13 hR;subst hc;have hgl:=hI.bk.lt;have hcg:=hI.bk.all;have hzg:=hI.bk.fz;have HI:=ns hI;clear hI;go_in;go_wp2_with fail
 go_end0
 exact aP.bad HI.out (Sm.refl No w)
theorem tv(w:World)(O:Nat→Prop)(g:Nat)(vB vT vL:Value)(left:Int)(b:af)(c:UInt8)(e0:Nat)(ts:List aJ)(hI:dU w O g vB vT vL false 0 left b 3 [] e0 ts)(hc:c=10):Calls Tryz.prog 171 #[.pointer (some ⟨g,0,none⟩),.int .u8 c.toNat] w (aP w O g (.bad 400)):=by
 obtain⟨A,cp,hv, -⟩:=hI.line.slice;subst hv hc;have hgl:=hI.bk.lt;have hcg:=hI.bk.all;have hzg:=hI.bk.fz;have HI:=ns hI;clear hI;go_in;go_wp2_with fail
 go_end0
 exact aP.bad HI.out (Sm.refl No w)
theorem sM(w:World)(O:Nat→Prop)(g:Nat)(vB vT vL:Value)(left:Int)(b:af)(c:UInt8)(e0:Nat)(ts:List aJ)(l:af)(hI:dU w O g vB vT vL false 0 left b 3 l e0 ts)(hl:l.length≤300)(h0:0 < l.length)(h13:∀ h:l.length-1 < l.length,l[l.length-1]≠13)(hc:c=10):Calls Tryz.prog 171 #[.pointer (some ⟨g,0,none⟩),.int .u8 c.toNat] w (aP w O g (.bad 400)):=by
 obtain⟨A,cp,hv,hR,hcp, -⟩:=hI.line.slice;subst hv;have hlt:l.length-1 < l.length:=by omega
 obtain⟨bb,off,rfl,hbb,r0⟩:=hR.at (j:=l.length-1) (u:=.int .u8 (l[l.length-1]).toNat) (by simp [hlt,aM]);obtain⟨y,hy⟩:=Iu (l[l.length-1]);rw [hy] at r0;have k0:(0:Int) < (l.length:Int):=by omega
 have k2:(0:Int)≤(l.length:Int)-1:=by omega
 have k3:((l.length:Int)-1).toNat=l.length-1:=by omega
 have k4:((l.length:Int)==0)=false:=by rw [beq_eq_false_iff_ne];omega
 have k5:(l.length:Int)≤(cp:Int):=by omega
 have k6:(l.length:Int)≤1000:=by omega
 have e1:((y.toNat:Int)==13)=false:=aK (n:=13) (by decide) (by rw [←hy];exact h13 hlt);have e2:((y.toNat:Int) != 13)=true:=by simpa using e1
 clear hy h13 hR;subst hc;have hgl:=hI.bk.lt;have hcg:=hI.bk.all;have hzg:=hI.bk.fz;have HI:=ns hI;clear hI;go_in;go_wp2_with fail
 go_end0
 exact aP.bad HI.out (Sm.refl No w)
theorem xk(w:World)(O:Nat→Prop)(g:Nat)(vB vT vL:Value)(left:Int)(b:af)(c:UInt8)(l:af)(hI:dU w O g vB vT vL false 0 left b 0 l 0 [])(hb:b.length≤2048)(hl:l.length≤300)(h13:l.getLast?=some 13)(hc:c=10):Calls Tryz.prog 171 #[.pointer (some ⟨g,0,none⟩),.int .u8 c.toNat] w (aP w O g (cP b l.dropLast)):=by
 have h0:0 < l.length:=by
  cases l with
  |nil=>cases h13
  |cons=>simp
 rcases hI.line.by with ⟨_,hn⟩|⟨gL,cap,hv,_,hBy⟩
 ·subst hn;cases h13
 subst hv;have hlt:l.length-1 < l.length:=by omega
 have hcap:=iu hI.line;have hy:l[l.length-1]=13:=by
  rw [List.getLast?_eq_getElem?,List.getElem?_eq_getElem hlt] at h13;exact Option.some.inj h13
 have r0:=(hBy.2 (l.length-1) 13 (by rw [List.getElem?_eq_getElem hlt,hy])).1;have hByD:By w gL l.dropLast:=by rw [List.dropLast_eq_take];exact hBy.pre _
 have k0:(0:Int) < (l.length:Int):=by omega
 have k2:(0:Int)≤(l.length:Int)-1:=by omega
 have k3:((l.length:Int)-1).toNat=l.length-1:=by omega
 have k4:((l.length:Int)==0)=false:=by rw [beq_eq_false_iff_ne];omega
 have k5:(l.length:Int)≤(cap:Int):=by omega
 have k6:(l.length:Int)≤1000:=by omega
 have k7:(l.length:Int)-1≤(cap:Int):=by omega
 obtain⟨sB,hsB⟩:=Iu ((⟨l.dropLast.toArray⟩:ByteArray));have hst:ab sB=l.dropLast:=by rw [←hsB];rfl
 have hsz:sB.size≤300:=by rw [←ae,hst,List.length_dropLast];omega
 have HB:=ns (BT hByD (BT hst hsB));clear hy h13 hBy hByD hst hsB;subst hc;have hgl:=hI.bk.lt;have hcg:=hI.bk.all;have hzg:=hI.bk.fz;have HI:=ns hI;clear hI;go_in;go_upto_region 20 with (refine aE rfl 22 9 5 _ rfl gL (l.length-1) cap l.dropLast rfl Tryz.underlying22 Tryz.underlying5 Tryz.underlying9 HB.out.1 (by simp) ?_);rw [HB.out.2.2];go_upto_region 21 with fail;obtain⟨w1,hw1⟩:=Iu (w.setCell ⟨g,5,none⟩ (.slice none 0 0));have h1:=HI.out.upd ((Sm.refl _ w).set1 5 (.slice none 0 0)) ((HI.out.bk.set 5 _).eq rfl) (Or.inr ⟨rfl,rfl⟩);rw [hw1] at h1 ⊢;have H1:=ns h1;have hc1:=h1.1.bk.all;clear hw1 hcg hzg;have HCall:=ns (yW w1 _ g vB vT (.slice none 0 0) left b sB h1.1 hb (by omega));rw [HB.out.2.1] at HCall;clear h1;go_wp2_with fail;refine HCall.out.mono ?_;rintro e w2 ⟨v2,rfl,h2⟩;have H2:=ns h2;clear h2 hc1;go_wp2_with fail
 go_end0
 exact aP.up ⟨v2,rfl,H2.out⟩ HI.out.lt H1.out.2
theorem wR(w:World)(O:Nat→Prop)(g:Nat)(vB vT vL:Value)(left:Int)(b:af)(c:UInt8)(l:af)(hI:dU w O g vB vT vL false 0 left b 0 l 0 [])(hl:l.length≤300)(hc:c=13)(hk:64 < l.length):Calls Tryz.prog 171 #[.pointer (some ⟨g,0,none⟩),.int .u8 c.toNat] w (aP w O g (.bad 400)):=by
 obtain⟨A,cp,hv, -⟩:=hI.line.slice;subst hv;have e1:((c.toNat:Int)==10)=false:=by rw [hc];rfl
 have e2:((c.toNat:Int)==13)=true:=by rw [hc];rfl
 clear hc;have i1:(64:Int) < (l.length:Int):=by omega
 have i9:(l.length:Int)≤300:=by omega
 have hgl:=hI.bk.lt;have hcg:=hI.bk.all;have hzg:=hI.bk.fz;have HI:=ns hI;clear hI;go_in;go_wp2_with (at_builtin;refine aH rfl _ _ rfl c (.slice A l.length cp) l rfl HI.out.line rfl (by omega) ?_;intro v' w5 hO5 hs5 hv5;have hb5:=HI.out.bk.sm hs5 HI.out.neL;have hc5:=hb5.all;have hz5:=hb5.fz;have hl5:=hb5.lt;obtain⟨A5,cp5,hv6, -⟩:=hO5.slice;have hv7:v'=.slice A5 (l.length+1) cp5:=hv6.trans (by simp);clear hv6;subst hv7;have H5:=ns (BT hb5 (BT hO5 (BT hs5 hv5)));clear hO5 hs5 hv5 hb5)
 go_end0
 obtain⟨hb5,hO5,hs5,hv5⟩:=H5.out;have h:=HI.out.putL hO5 hs5 hv5 (((Sm.refl _ w5).set1 5 (.slice A5 (l.length+1) cp5)).set1 3 (.int .i64 400)) (((hb5.set 5 _).set 3 _).eq rfl) (Or.inl ⟨rfl,rfl⟩);exact⟨_,rfl,⟨_,_,_,_,_,_,_,_,h.1⟩,h.2⟩
theorem wK(w:World)(O:Nat→Prop)(g:Nat)(vB vT vL:Value)(left:Int)(b:af)(c:UInt8)(l:af)(hI:dU w O g vB vT vL false 0 left b 0 l 0 [])(hl:l.length≤300)(hc:c=13)(hk:¬64 < l.length):Calls Tryz.prog 171 #[.pointer (some ⟨g,0,none⟩),.int .u8 c.toNat] w (aP w O g (.at b (.size (l++[c])))):=by
 obtain⟨A,cp,hv, -⟩:=hI.line.slice;subst hv;have e1:((c.toNat:Int)==10)=false:=by rw [hc];rfl
 have e2:((c.toNat:Int)==13)=true:=by rw [hc];rfl
 clear hc;have i1:¬(64:Int) < (l.length:Int):=by omega
 have i9:(l.length:Int)≤300:=by omega
 have hgl:=hI.bk.lt;have hcg:=hI.bk.all;have hzg:=hI.bk.fz;have HI:=ns hI;clear hI;go_in;go_wp2_with (at_builtin;refine aH rfl _ _ rfl c (.slice A l.length cp) l rfl HI.out.line rfl (by omega) ?_;intro v' w5 hO5 hs5 hv5;have hb5:=HI.out.bk.sm hs5 HI.out.neL;have hc5:=hb5.all;have hz5:=hb5.fz;have hl5:=hb5.lt;obtain⟨A5,cp5,hv6, -⟩:=hO5.slice;have hv7:v'=.slice A5 (l.length+1) cp5:=hv6.trans (by simp);clear hv6;subst hv7;have H5:=ns (BT hb5 (BT hO5 (BT hs5 hv5)));clear hO5 hs5 hv5 hb5)
 go_end0
 obtain⟨hb5,hO5,hs5,hv5⟩:=H5.out;have h:=HI.out.putL hO5 hs5 hv5 ((Sm.refl _ w5).set1 5 (.slice A5 (l.length+1) cp5)) ((hb5.set 5 _).eq rfl) (Or.inl ⟨rfl,rfl⟩);exact⟨_,rfl,⟨vT,_,left,h.1,trivial⟩,h.2⟩
theorem xI(w:World)(O:Nat→Prop)(g:Nat)(vB vT vL:Value)(left:Int)(b:af)(c:UInt8)(l:af)(hI:dU w O g vB vT vL false 0 left b 0 l 0 [])(hl:l.length≤300)(h10:c≠10)(h13:c≠13)(hk:64 < l.length+1):Calls Tryz.prog 171 #[.pointer (some ⟨g,0,none⟩),.int .u8 c.toNat] w (aP w O g (.bad 400)):=by
 obtain⟨A,cp,hv, -⟩:=hI.line.slice;subst hv;have e1:((c.toNat:Int)==10)=false:=aK (n:=10) (by decide) h10;have e2:((c.toNat:Int)==13)=false:=aK (n:=13) (by decide) h13;clear h10 h13;have i1:(64:Int) < (l.length:Int)+1:=by omega
 have i9:(l.length:Int)≤300:=by omega
 have hgl:=hI.bk.lt;have hcg:=hI.bk.all;have hzg:=hI.bk.fz;have HI:=ns hI;clear hI;go_in;go_wp2_with (at_builtin;refine aH rfl _ _ rfl c (.slice A l.length cp) l rfl HI.out.line rfl (by omega) ?_;intro v' w5 hO5 hs5 hv5;have hb5:=HI.out.bk.sm hs5 HI.out.neL;have hc5:=hb5.all;have hz5:=hb5.fz;have hl5:=hb5.lt;obtain⟨A5,cp5,hv6, -⟩:=hO5.slice;have hv7:v'=.slice A5 (l.length+1) cp5:=hv6.trans (by simp);clear hv6;subst hv7;have H5:=ns (BT hb5 (BT hO5 (BT hs5 hv5)));clear hO5 hs5 hv5 hb5)
 go_end0
 obtain⟨hb5,hO5,hs5,hv5⟩:=H5.out;have h:=HI.out.putL hO5 hs5 hv5 (((Sm.refl _ w5).set1 5 (.slice A5 (l.length+1) cp5)).set1 3 (.int .i64 400)) (((hb5.set 5 _).set 3 _).eq rfl) (Or.inl ⟨rfl,rfl⟩);exact⟨_,rfl,⟨_,_,_,_,_,_,_,_,h.1⟩,h.2⟩
theorem wZ(w:World)(O:Nat→Prop)(g:Nat)(vB vT vL:Value)(left:Int)(b:af)(c:UInt8)(l:af)(hI:dU w O g vB vT vL false 0 left b 0 l 0 [])(hl:l.length≤300)(h10:c≠10)(h13:c≠13)(hk:¬64 < l.length+1):Calls Tryz.prog 171 #[.pointer (some ⟨g,0,none⟩),.int .u8 c.toNat] w (aP w O g (.at b (.size (l++[c])))):=by
 obtain⟨A,cp,hv, -⟩:=hI.line.slice;subst hv;have e1:((c.toNat:Int)==10)=false:=aK (n:=10) (by decide) h10;have e2:((c.toNat:Int)==13)=false:=aK (n:=13) (by decide) h13;clear h10 h13;have i1:¬(64:Int) < (l.length:Int)+1:=by omega
 have i9:(l.length:Int)≤300:=by omega
 have hgl:=hI.bk.lt;have hcg:=hI.bk.all;have hzg:=hI.bk.fz;have HI:=ns hI;clear hI;go_in;go_wp2_with (at_builtin;refine aH rfl _ _ rfl c (.slice A l.length cp) l rfl HI.out.line rfl (by omega) ?_;intro v' w5 hO5 hs5 hv5;have hb5:=HI.out.bk.sm hs5 HI.out.neL;have hc5:=hb5.all;have hz5:=hb5.fz;have hl5:=hb5.lt;obtain⟨A5,cp5,hv6, -⟩:=hO5.slice;have hv7:v'=.slice A5 (l.length+1) cp5:=hv6.trans (by simp);clear hv6;subst hv7;have H5:=ns (BT hb5 (BT hO5 (BT hs5 hv5)));clear hO5 hs5 hv5 hb5)
 go_end0
 obtain⟨hb5,hO5,hs5,hv5⟩:=H5.out;have h:=HI.out.putL hO5 hs5 hv5 ((Sm.refl _ w5).set1 5 (.slice A5 (l.length+1) cp5)) ((hb5.set 5 _).eq rfl) (Or.inl ⟨rfl,rfl⟩);exact⟨_,rfl,⟨vT,_,left,h.1,trivial⟩,h.2⟩
theorem tH(w:World)(O:Nat→Prop)(g:Nat)(vB vT vL:Value)(left:Int)(b:af)(c:UInt8)(e0:Nat)(ts:List aJ)(l:af)(hI:dU w O g vB vT vL false 0 left b 3 l e0 ts)(he:e0≤512)(hts:ts.length≤8)(hl:l.length≤300)(h13:l.getLast?=some 13)(hc:c=10):Calls Tryz.prog 171 #[.pointer (some ⟨g,0,none⟩),.int .u8 c.toNat] w (aP w O g (bN b l.dropLast e0 ts)):=by
 have h0:0 < l.length:=by
  cases l with
  |nil=>cases h13
  |cons=>simp
 rcases hI.line.by with ⟨_,hn⟩|⟨gL,cap,hv,_,hBy⟩
 ·subst hn;cases h13
 subst hv;have hlt:l.length-1 < l.length:=by omega
 have hcap:=iu hI.line;have hy:l[l.length-1]=13:=by
  rw [List.getLast?_eq_getElem?,List.getElem?_eq_getElem hlt] at h13;exact Option.some.inj h13
 have r0:=(hBy.2 (l.length-1) 13 (by rw [List.getElem?_eq_getElem hlt,hy])).1;have hByD:By w gL l.dropLast:=by rw [List.dropLast_eq_take];exact hBy.pre _
 have k0:(0:Int) < (l.length:Int):=by omega
 have k2:(0:Int)≤(l.length:Int)-1:=by omega
 have k3:((l.length:Int)-1).toNat=l.length-1:=by omega
 have k4:((l.length:Int)==0)=false:=by rw [beq_eq_false_iff_ne];omega
 have k5:(l.length:Int)≤(cap:Int):=by omega
 have k6:(l.length:Int)≤1000:=by omega
 have k7:(l.length:Int)-1≤(cap:Int):=by omega
 obtain⟨sB,hsB⟩:=Iu ((⟨l.dropLast.toArray⟩:ByteArray));have hst:ab sB=l.dropLast:=by rw [←hsB];rfl
 have hsz:sB.size≤300:=by rw [←ae,hst,List.length_dropLast];omega
 have HB:=ns (BT hByD (BT hst hsB));clear hy h13 hBy hByD hst hsB;subst hc;have hgl:=hI.bk.lt;have hcg:=hI.bk.all;have hzg:=hI.bk.fz;have HI:=ns hI;clear hI;go_in;go_upto_region 20 with (refine aE rfl 22 9 5 _ rfl gL (l.length-1) cap l.dropLast rfl Tryz.underlying22 Tryz.underlying5 Tryz.underlying9 HB.out.1 (by simp) ?_);rw [HB.out.2.2];go_upto_region 21 with fail;obtain⟨w1,hw1⟩:=Iu (w.setCell ⟨g,5,none⟩ (.slice none 0 0));have h1:=HI.out.upd ((Sm.refl _ w).set1 5 (.slice none 0 0)) ((HI.out.bk.set 5 _).eq rfl) (Or.inr ⟨rfl,rfl⟩);rw [hw1] at h1 ⊢;have H1:=ns h1;have hc1:=h1.1.bk.all;clear hw1 hcg hzg;have HCall:=ns (rE w1 _ g vB vT (.slice none 0 0) left b e0 ts sB h1.1 hts he (by omega));rw [HB.out.2.1] at HCall;clear h1;go_wp2_with fail;refine HCall.out.mono ?_;rintro e w2 ⟨v2,rfl,h2⟩;have H2:=ns h2;clear h2 hc1;go_wp2_with fail
 go_end0
 exact aP.up ⟨v2,rfl,H2.out⟩ HI.out.lt H1.out.2
theorem sy(w:World)(O:Nat→Prop)(g:Nat)(vB vT vL:Value)(left:Int)(b:af)(c:UInt8)(e0:Nat)(ts:List aJ)(l:af)(hI:dU w O g vB vT vL false 0 left b 3 l e0 ts)(hl:l.length≤300)(hc:c=13)(hk:256 < l.length):Calls Tryz.prog 171 #[.pointer (some ⟨g,0,none⟩),.int .u8 c.toNat] w (aP w O g (.bad 431)):=by
 obtain⟨A,cp,hv, -⟩:=hI.line.slice;subst hv;have e1:((c.toNat:Int)==10)=false:=by rw [hc];rfl
 have e2:((c.toNat:Int)==13)=true:=by rw [hc];rfl
 clear hc;have i1:(256:Int) < (l.length:Int):=by omega
 have i9:(l.length:Int)≤300:=by omega
 have hgl:=hI.bk.lt;have hcg:=hI.bk.all;have hzg:=hI.bk.fz;have HI:=ns hI;clear hI;go_in;go_wp2_with (at_builtin;refine aH rfl _ _ rfl c (.slice A l.length cp) l rfl HI.out.line rfl (by omega) ?_;intro v' w5 hO5 hs5 hv5;have hb5:=HI.out.bk.sm hs5 HI.out.neL;have hc5:=hb5.all;have hz5:=hb5.fz;have hl5:=hb5.lt;obtain⟨A5,cp5,hv6, -⟩:=hO5.slice;have hv7:v'=.slice A5 (l.length+1) cp5:=hv6.trans (by simp);clear hv6;subst hv7;have H5:=ns (BT hb5 (BT hO5 (BT hs5 hv5)));clear hO5 hs5 hv5 hb5)
 go_end0
 obtain⟨hb5,hO5,hs5,hv5⟩:=H5.out;have h:=HI.out.putL hO5 hs5 hv5 (((Sm.refl _ w5).set1 5 (.slice A5 (l.length+1) cp5)).set1 3 (.int .i64 431)) (((hb5.set 5 _).set 3 _).eq rfl) (Or.inl ⟨rfl,rfl⟩);exact⟨_,rfl,⟨_,_,_,_,_,_,_,_,h.1⟩,h.2⟩
theorem tF(w:World)(O:Nat→Prop)(g:Nat)(vB vT vL:Value)(left:Int)(b:af)(c:UInt8)(e0:Nat)(ts:List aJ)(l:af)(hI:dU w O g vB vT vL false 0 left b 3 l e0 ts)(hl:l.length≤300)(he:e0≤512)(hc:c=13)(hk:¬256 < l.length)(hk2:512 < e0+(l.length)):Calls Tryz.prog 171 #[.pointer (some ⟨g,0,none⟩),.int .u8 c.toNat] w (aP w O g (.bad 431)):=by
 obtain⟨A,cp,hv, -⟩:=hI.line.slice;subst hv;have e1:((c.toNat:Int)==10)=false:=by rw [hc];rfl
 have e2:((c.toNat:Int)==13)=true:=by rw [hc];rfl
 clear hc;have i1:¬(256:Int) < (l.length:Int):=by omega
 have i2:(512:Int) < (e0:Int)+(l.length:Int):=by omega
 have i9:(l.length:Int)≤300:=by omega
 have hgl:=hI.bk.lt;have hcg:=hI.bk.all;have hzg:=hI.bk.fz;have HI:=ns hI;clear hI;go_in;go_wp2_with (at_builtin;refine aH rfl _ _ rfl c (.slice A l.length cp) l rfl HI.out.line rfl (by omega) ?_;intro v' w5 hO5 hs5 hv5;have hb5:=HI.out.bk.sm hs5 HI.out.neL;have hc5:=hb5.all;have hz5:=hb5.fz;have hl5:=hb5.lt;obtain⟨A5,cp5,hv6, -⟩:=hO5.slice;have hv7:v'=.slice A5 (l.length+1) cp5:=hv6.trans (by simp);clear hv6;subst hv7;have H5:=ns (BT hb5 (BT hO5 (BT hs5 hv5)));clear hO5 hs5 hv5 hb5)
 go_end0
 obtain⟨hb5,hO5,hs5,hv5⟩:=H5.out;have h:=HI.out.putL hO5 hs5 hv5 (((Sm.refl _ w5).set1 5 (.slice A5 (l.length+1) cp5)).set1 3 (.int .i64 431)) (((hb5.set 5 _).set 3 _).eq rfl) (Or.inl ⟨rfl,rfl⟩);exact⟨_,rfl,⟨_,_,_,_,_,_,_,_,h.1⟩,h.2⟩
theorem tA(w:World)(O:Nat→Prop)(g:Nat)(vB vT vL:Value)(left:Int)(b:af)(c:UInt8)(e0:Nat)(ts:List aJ)(l:af)(hI:dU w O g vB vT vL false 0 left b 3 l e0 ts)(hl:l.length≤300)(he:e0≤512)(hc:c=13)(hk:¬256 < l.length)(hk2:¬512 < e0+(l.length)):Calls Tryz.prog 171 #[.pointer (some ⟨g,0,none⟩),.int .u8 c.toNat] w (aP w O g (.at b (.trail (l++[c]) e0 ts))):=by
 obtain⟨A,cp,hv, -⟩:=hI.line.slice;subst hv;have e1:((c.toNat:Int)==10)=false:=by rw [hc];rfl
 have e2:((c.toNat:Int)==13)=true:=by rw [hc];rfl
 clear hc;have i1:¬(256:Int) < (l.length:Int):=by omega
 have i2:¬(512:Int) < (e0:Int)+(l.length:Int):=by omega
 have i9:(l.length:Int)≤300:=by omega
 have hgl:=hI.bk.lt;have hcg:=hI.bk.all;have hzg:=hI.bk.fz;have HI:=ns hI;clear hI;go_in;go_wp2_with (at_builtin;refine aH rfl _ _ rfl c (.slice A l.length cp) l rfl HI.out.line rfl (by omega) ?_;intro v' w5 hO5 hs5 hv5;have hb5:=HI.out.bk.sm hs5 HI.out.neL;have hc5:=hb5.all;have hz5:=hb5.fz;have hl5:=hb5.lt;obtain⟨A5,cp5,hv6, -⟩:=hO5.slice;have hv7:v'=.slice A5 (l.length+1) cp5:=hv6.trans (by simp);clear hv6;subst hv7;have H5:=ns (BT hb5 (BT hO5 (BT hs5 hv5)));clear hO5 hs5 hv5 hb5)
 go_end0
 obtain⟨hb5,hO5,hs5,hv5⟩:=H5.out;have h:=HI.out.putL hO5 hs5 hv5 ((Sm.refl _ w5).set1 5 (.slice A5 (l.length+1) cp5)) ((hb5.set 5 _).eq rfl) (Or.inl ⟨rfl,rfl⟩);exact⟨_,rfl,⟨vT,_,left,h.1,trivial⟩,h.2⟩
theorem ug(w:World)(O:Nat→Prop)(g:Nat)(vB vT vL:Value)(left:Int)(b:af)(c:UInt8)(e0:Nat)(ts:List aJ)(l:af)(hI:dU w O g vB vT vL false 0 left b 3 l e0 ts)(hl:l.length≤300)(h10:c≠10)(h13:c≠13)(hk:256 < l.length+1):Calls Tryz.prog 171 #[.pointer (some ⟨g,0,none⟩),.int .u8 c.toNat] w (aP w O g (.bad 431)):=by
 obtain⟨A,cp,hv, -⟩:=hI.line.slice;subst hv;have e1:((c.toNat:Int)==10)=false:=aK (n:=10) (by decide) h10;have e2:((c.toNat:Int)==13)=false:=aK (n:=13) (by decide) h13;clear h10 h13;have i1:(256:Int) < (l.length:Int)+1:=by omega
 have i9:(l.length:Int)≤300:=by omega
 have hgl:=hI.bk.lt;have hcg:=hI.bk.all;have hzg:=hI.bk.fz;have HI:=ns hI;clear hI;go_in;go_wp2_with (at_builtin;refine aH rfl _ _ rfl c (.slice A l.length cp) l rfl HI.out.line rfl (by omega) ?_;intro v' w5 hO5 hs5 hv5;have hb5:=HI.out.bk.sm hs5 HI.out.neL;have hc5:=hb5.all;have hz5:=hb5.fz;have hl5:=hb5.lt;obtain⟨A5,cp5,hv6, -⟩:=hO5.slice;have hv7:v'=.slice A5 (l.length+1) cp5:=hv6.trans (by simp);clear hv6;subst hv7;have H5:=ns (BT hb5 (BT hO5 (BT hs5 hv5)));clear hO5 hs5 hv5 hb5)
 go_end0
 obtain⟨hb5,hO5,hs5,hv5⟩:=H5.out;have h:=HI.out.putL hO5 hs5 hv5 (((Sm.refl _ w5).set1 5 (.slice A5 (l.length+1) cp5)).set1 3 (.int .i64 431)) (((hb5.set 5 _).set 3 _).eq rfl) (Or.inl ⟨rfl,rfl⟩);exact⟨_,rfl,⟨_,_,_,_,_,_,_,_,h.1⟩,h.2⟩
theorem tK(w:World)(O:Nat→Prop)(g:Nat)(vB vT vL:Value)(left:Int)(b:af)(c:UInt8)(e0:Nat)(ts:List aJ)(l:af)(hI:dU w O g vB vT vL false 0 left b 3 l e0 ts)(hl:l.length≤300)(he:e0≤512)(h10:c≠10)(h13:c≠13)(hk:¬256 < l.length+1)(hk2:512 < e0+(l.length+1)):Calls Tryz.prog 171 #[.pointer (some ⟨g,0,none⟩),.int .u8 c.toNat] w (aP w O g (.bad 431)):=by
 obtain⟨A,cp,hv, -⟩:=hI.line.slice;subst hv;have e1:((c.toNat:Int)==10)=false:=aK (n:=10) (by decide) h10;have e2:((c.toNat:Int)==13)=false:=aK (n:=13) (by decide) h13;clear h10 h13;have i1:¬(256:Int) < (l.length:Int)+1:=by omega
 have i2:(512:Int) < (e0:Int)+((l.length:Int)+1):=by omega
 have i9:(l.length:Int)≤300:=by omega
 have hgl:=hI.bk.lt;have hcg:=hI.bk.all;have hzg:=hI.bk.fz;have HI:=ns hI;clear hI;go_in;go_wp2_with (at_builtin;refine aH rfl _ _ rfl c (.slice A l.length cp) l rfl HI.out.line rfl (by omega) ?_;intro v' w5 hO5 hs5 hv5;have hb5:=HI.out.bk.sm hs5 HI.out.neL;have hc5:=hb5.all;have hz5:=hb5.fz;have hl5:=hb5.lt;obtain⟨A5,cp5,hv6, -⟩:=hO5.slice;have hv7:v'=.slice A5 (l.length+1) cp5:=hv6.trans (by simp);clear hv6;subst hv7;have H5:=ns (BT hb5 (BT hO5 (BT hs5 hv5)));clear hO5 hs5 hv5 hb5)
 go_end0
 obtain⟨hb5,hO5,hs5,hv5⟩:=H5.out;have h:=HI.out.putL hO5 hs5 hv5 (((Sm.refl _ w5).set1 5 (.slice A5 (l.length+1) cp5)).set1 3 (.int .i64 431)) (((hb5.set 5 _).set 3 _).eq rfl) (Or.inl ⟨rfl,rfl⟩);exact⟨_,rfl,⟨_,_,_,_,_,_,_,_,h.1⟩,h.2⟩
theorem sP(w:World)(O:Nat→Prop)(g:Nat)(vB vT vL:Value)(left:Int)(b:af)(c:UInt8)(e0:Nat)(ts:List aJ)(l:af)(hI:dU w O g vB vT vL false 0 left b 3 l e0 ts)(hl:l.length≤300)(he:e0≤512)(h10:c≠10)(h13:c≠13)(hk:¬256 < l.length+1)(hk2:¬512 < e0+(l.length+1)):Calls Tryz.prog 171 #[.pointer (some ⟨g,0,none⟩),.int .u8 c.toNat] w (aP w O g (.at b (.trail (l++[c]) e0 ts))):=by
 obtain⟨A,cp,hv, -⟩:=hI.line.slice;subst hv;have e1:((c.toNat:Int)==10)=false:=aK (n:=10) (by decide) h10;have e2:((c.toNat:Int)==13)=false:=aK (n:=13) (by decide) h13;clear h10 h13;have i1:¬(256:Int) < (l.length:Int)+1:=by omega
 have i2:¬(512:Int) < (e0:Int)+((l.length:Int)+1):=by omega
 have i9:(l.length:Int)≤300:=by omega
 have hgl:=hI.bk.lt;have hcg:=hI.bk.all;have hzg:=hI.bk.fz;have HI:=ns hI;clear hI;go_in;go_wp2_with (at_builtin;refine aH rfl _ _ rfl c (.slice A l.length cp) l rfl HI.out.line rfl (by omega) ?_;intro v' w5 hO5 hs5 hv5;have hb5:=HI.out.bk.sm hs5 HI.out.neL;have hc5:=hb5.all;have hz5:=hb5.fz;have hl5:=hb5.lt;obtain⟨A5,cp5,hv6, -⟩:=hO5.slice;have hv7:v'=.slice A5 (l.length+1) cp5:=hv6.trans (by simp);clear hv6;subst hv7;have H5:=ns (BT hb5 (BT hO5 (BT hs5 hv5)));clear hO5 hs5 hv5 hb5)
 go_end0
 obtain⟨hb5,hO5,hs5,hv5⟩:=H5.out;have h:=HI.out.putL hO5 hs5 hv5 ((Sm.refl _ w5).set1 5 (.slice A5 (l.length+1) cp5)) ((hb5.set 5 _).eq rfl) (Or.inl ⟨rfl,rfl⟩);exact⟨_,rfl,⟨vT,_,left,h.1,trivial⟩,h.2⟩
end Go.Proofs.YtcflkcbogofgbaaGreatDoor
