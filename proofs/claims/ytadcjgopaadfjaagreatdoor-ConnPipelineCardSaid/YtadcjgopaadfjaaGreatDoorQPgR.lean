import Derived.Test.YtadcjgopaadfjaaGreatDoorQPC
set_option maxHeartbeats 16000000
set_option maxRecDepth 100000
namespace Go.Proofs.YtadcjgopaadfjaaGreatDoor
open Go.RowKit Go.Proofs
theorem aX.up{w w1 w2:World}{O:Nat→Prop}{g:Nat}{q:eW}{e:Ending}(h:aX w1 (be O w w1) g q e w2)(hO:∀ x,O x→x < w.heap.size)(hs:Sm O w w1):aX w O g q e w2:=by
 obtain⟨h1,h2,h3⟩:=h;refine⟨h1,?_,hs.up h3⟩;have k:=fun x=>be.up (O:=O) hs.size h3.size x;have lt:=be.lt hO (Nat.le_trans hs.size h3.size)
 cases q with
 |«at» b p=>obtain⟨a1,a2,a3,a4,h,d⟩:=h2;exact⟨a1,a2,a3,a4,h.imp k lt,d⟩
 |whole b=>obtain⟨a1,a2,a3,a4,a5,a6,a7,a8,h⟩:=h2;exact⟨a1,a2,a3,a4,a5,a6,a7,a8,h.imp k lt⟩
 |bad s=>obtain⟨a1,a2,a3,a4,a5,a6,a7,a8,a9,h⟩:=h2;exact⟨a1,a2,a3,a4,a5,a6,a7,a8,a9,h.imp k lt⟩
theorem wW(w:World)(g:Nat)(c:Int):Sm (fun x=>x=g) w (oA w g c):=by
 unfold oA;split
 ·exact Sm.refl _ _
 ·exact(Sm.refl _ w).set1 7 _
theorem wZ{w:World}{g:Nat}{st left e:Int}{vL vB vT:Value}{wh:Bool}(h:Bk w g 244 #[.int .i64 st,vL,.int .i64 left,vB,vT,.int .i64 e,.bool wh,.int .i64 0])(c:Int):Bk (oA w g c) g 244 #[.int .i64 st,vL,.int .i64 left,vB,vT,.int .i64 e,.bool wh,.int .i64 c]:=by
 unfold oA;split
 ·rename_i h0;rw [h0];exact h
 ·exact(h.set 7 _).eq rfl
def gI(w:World)(O:Nat→Prop)(g:Nat)(vB vT:Value)(left:Int)(b:ah)(st:Int)(L:ah)(e0:Int)(ts:List aM)(c:Int)(e:Ending)(w':World):Prop:=
 e=.returned (.tuple #[])∧(∃ vL',dP w' (be O w w') g vB vT vL' false c left b st L e0 ts)∧Sm O w w'
theorem Gu(w:World)(O:Nat→Prop)(g:Nat)(vB vT vL:Value)(left:Int)(b:ah)(st e0:Int)(ts:List aM)(l:ah)(c:UInt8)(hI:dP w O g vB vT vL false 0 left b st l e0 ts)(hst:st=0∨st=3)(he:0≤e0∧e0≤1000)(hl:l.length≤300)(hc:c=13):
 Calls Tryz.prog 201 #[.pointer (some ⟨g,0,none⟩),.int .u8 c.toNat] w (gI w O g vB vT left b st (l++[c]) e0 ts (fk st (cG l c) e0)):=by
 obtain⟨A,cp,hv, -⟩:=hI.line.slice;subst hv;have e1:((c.toNat:Int)==10)=false:=by rw [hc];rfl
 have e3:((c.toNat:Int) != 10)=true:=by rw [hc];rfl
 have e2:((c.toNat:Int)==13)=true:=by rw [hc];rfl
 have e4:((c.toNat:Int) != 13)=false:=by rw [hc];rfl
 have hn:((cG l c:Nat):Int)=l.length:=by unfold cG;rw [if_pos hc]
 clear hc;obtain⟨K,hK⟩:=ai (fk st (cG l c) e0);rw [hK];rw [hn] at hK;have HK:=aa hK;have HS:=aa (ab hst he);have i9:(l.length:Int)≤300:=by omega
 clear hn hK hst he;have hgl:=hI.bk.lt;have hcg:=hI.bk.all;have hzg:=hI.bk.fz;have HI:=aa hI;clear hI;go_in;go_upto_region 5 with (at_builtin;refine eQ rfl _ _ rfl c (.slice A l.length cp) l rfl HI.out.line rfl (by omega) ?_;intro v' w5 hO5 hs5 hv5;have hb5:=HI.out.bk.sm hs5 HI.out.neL;have hc5:=hb5.all;have hz5:=hb5.fz;have hl5:=hb5.lt;obtain⟨A5,cp5,hv6, -⟩:=hO5.slice;have hv7:v'=.slice A5 (l.length+1) cp5:=hv6.trans (by simp);clear hv6;subst hv7;have H5:=aa (ab hb5 (ab hO5 (ab hs5 hv5)));clear hO5 hs5 hv5 hb5);obtain⟨w6,hw6⟩:=ai (w5.setCell ⟨g,1,none⟩ (.slice A5 (l.length+1) cp5));have hb6:Bk w6 g 244 #[.int .i64 st,.slice A5 (l.length+1) cp5,.int .i64 left,vB,vT,.int .i64 e0,.bool false,.int .i64 0]:=by rw [←hw6];exact(H5.out.1.set 1 _).eq rfl
 have HLim:=aa (xk w6 g st left e0 0 _ vB vT false (l.length) hb6 HS.out.1 (by omega) HS.out.2);have HW:=aa (ab hw6 hb6);rw [hw6];clear hw6 hb6 hc5 hz5 hcg hzg;go_wp2_with fail;refine HLim.out.mono ?_;rintro e w7 ⟨rfl,hw7⟩;have HW7:=aa hw7;clear hw7;go_wp2_with fail
 go_end0
 obtain⟨hb5,hO5,hs5,hv5⟩:=H5.out;rw [HW7.out,HK.out];have h:=HI.out.putL (sta':=K) hO5 hs5 hv5 ((by rw [←HW.out.1];exact(Sm.refl _ w5).set1 1 _:Sm (fun x=>x=g) w5 w6).tt (wW w6 g K)) (wZ HW.out.2 K);exact⟨rfl,⟨_,h.1⟩,h.2⟩
theorem Gx(w:World)(O:Nat→Prop)(g:Nat)(vB vT vL:Value)(left:Int)(b:ah)(st e0:Int)(ts:List aM)(l:ah)(c:UInt8)(hI:dP w O g vB vT vL false 0 left b st l e0 ts)(hst:st=0∨st=3)(he:0≤e0∧e0≤1000)(hl:l.length≤300)(h10:c≠10)(h13:c≠13):
 Calls Tryz.prog 201 #[.pointer (some ⟨g,0,none⟩),.int .u8 c.toNat] w (gI w O g vB vT left b st (l++[c]) e0 ts (fk st (cG l c) e0)):=by
 obtain⟨A,cp,hv, -⟩:=hI.line.slice;subst hv;have e1:((c.toNat:Int)==10)=false:=dq (n:=10) (by decide) h10;have e3:((c.toNat:Int) != 10)=true:=by simpa using e1
 have e2:((c.toNat:Int)==13)=false:=dq (n:=13) (by decide) h13;have e4:((c.toNat:Int) != 13)=true:=by simpa using e2
 have hn:((cG l c:Nat):Int)=(l.length:Int)+1:=by unfold cG;rw [if_neg h13];rfl
 clear h10 h13;obtain⟨K,hK⟩:=ai (fk st (cG l c) e0);rw [hK];rw [hn] at hK;have HK:=aa hK;have HS:=aa (ab hst he);have i9:(l.length:Int)≤300:=by omega
 clear hn hK hst he;have hgl:=hI.bk.lt;have hcg:=hI.bk.all;have hzg:=hI.bk.fz;have HI:=aa hI;clear hI;go_in;go_upto_region 5 with (at_builtin;refine eQ rfl _ _ rfl c (.slice A l.length cp) l rfl HI.out.line rfl (by omega) ?_;intro v' w5 hO5 hs5 hv5;have hb5:=HI.out.bk.sm hs5 HI.out.neL;have hc5:=hb5.all;have hz5:=hb5.fz;have hl5:=hb5.lt;obtain⟨A5,cp5,hv6, -⟩:=hO5.slice;have hv7:v'=.slice A5 (l.length+1) cp5:=hv6.trans (by simp);clear hv6;subst hv7;have H5:=aa (ab hb5 (ab hO5 (ab hs5 hv5)));clear hO5 hs5 hv5 hb5);obtain⟨w6,hw6⟩:=ai (w5.setCell ⟨g,1,none⟩ (.slice A5 (l.length+1) cp5));have hb6:Bk w6 g 244 #[.int .i64 st,.slice A5 (l.length+1) cp5,.int .i64 left,vB,vT,.int .i64 e0,.bool false,.int .i64 0]:=by rw [←hw6];exact(H5.out.1.set 1 _).eq rfl
 have HLim:=aa (xk w6 g st left e0 0 _ vB vT false (l.length+1) hb6 HS.out.1 (by omega) HS.out.2);have HW:=aa (ab hw6 hb6);rw [hw6];clear hw6 hb6 hc5 hz5 hcg hzg;go_wp2_with fail;refine HLim.out.mono ?_;rintro e w7 ⟨rfl,hw7⟩;have HW7:=aa hw7;clear hw7;go_wp2_with fail
 go_end0
 obtain⟨hb5,hO5,hs5,hv5⟩:=H5.out;rw [HW7.out,HK.out];have h:=HI.out.putL (sta':=K) hO5 hs5 hv5 ((by rw [←HW.out.1];exact(Sm.refl _ w5).set1 1 _:Sm (fun x=>x=g) w5 w6).tt (wW w6 g K)) (wZ HW.out.2 K);exact⟨rfl,⟨_,h.1⟩,h.2⟩
theorem EM(w:World)(O:Nat→Prop)(g:Nat)(vB vT vL:Value)(left:Int)(b:ah)(st e0:Int)(ts:List aM)(c:UInt8)(hI:dP w O g vB vT vL false 0 left b st [] e0 ts)(hc:c=10):
 Calls Tryz.prog 201 #[.pointer (some ⟨g,0,none⟩),.int .u8 c.toNat] w (aX w O g (.bad 400)):=by
 obtain⟨A,cp,hv, -⟩:=hI.line.slice;subst hv hc;have hgl:=hI.bk.lt;have hcg:=hI.bk.all;have hzg:=hI.bk.fz;have HI:=aa hI;clear hI;go_in;go_wp2_with fail
 go_end0
 exact aX.bad HI.out (Sm.refl No w) 400
theorem EN(w:World)(O:Nat→Prop)(g:Nat)(vB vT vL:Value)(left:Int)(b:ah)(st e0:Int)(ts:List aM)(l:ah)(c:UInt8)(hI:dP w O g vB vT vL false 0 left b st l e0 ts)(hl:l.length≤300)(h0:0 < l.length)(h13:∀ h:l.length-1 < l.length,l[l.length-1]≠13)(hc:c=10):
 Calls Tryz.prog 201 #[.pointer (some ⟨g,0,none⟩),.int .u8 c.toNat] w (aX w O g (.bad 400)):=by
 obtain⟨A,cp,hv,hR,hcp, -⟩:=hI.line.slice;subst hv;have hlt:l.length-1 < l.length:=by omega
 obtain⟨bb,off,rfl,hbb,r0⟩:=hR.at (j:=l.length-1) (u:=.int .u8 (l[l.length-1]).toNat) (by simp [hlt,aU]);obtain⟨y,hy⟩:=ai (l[l.length-1]);rw [hy] at r0;have k0:(0:Int) < (l.length:Int):=by omega
 have k2:(0:Int)≤(l.length:Int)-1:=by omega
 have k3:((l.length:Int)-1).toNat=l.length-1:=by omega
 have k4:((l.length:Int)==0)=false:=by rw [beq_eq_false_iff_ne];omega
 have k5:(l.length:Int)≤(cp:Int):=by omega
 have k6:(l.length:Int)≤1000:=by omega
 have e1:((y.toNat:Int)==13)=false:=dq (n:=13) (by decide) (by rw [←hy];exact h13 hlt);have e2:((y.toNat:Int) != 13)=true:=by simpa using e1
 clear hy h13 hR;subst hc;have hgl:=hI.bk.lt;have hcg:=hI.bk.all;have hzg:=hI.bk.fz;have HI:=aa hI;clear hI;go_in;go_wp2_with fail
 go_end0
 exact aX.bad HI.out (Sm.refl No w) 400
theorem DO(w:World)(O:Nat→Prop)(g:Nat)(vB vT vL:Value)(left:Int)(b:ah)(l:ah)(c:UInt8)(hI:dP w O g vB vT vL false 0 left b 0 l 0 [])(hb:b.length≤2048)(hl:l.length≤300)(h13:l.getLast?=some 13)(hc:c=10):
 Calls Tryz.prog 201 #[.pointer (some ⟨g,0,none⟩),.int .u8 c.toNat] w (aX w O g (dM b l.dropLast)):=by
 have h0:0 < l.length:=by
  cases l with
  |nil=>cases h13
  |cons=>simp
 rcases hI.line.by with ⟨_,hn⟩|⟨gL,cap,hv,_,hBy⟩
 ·subst hn;cases h13
 subst hv;have hlt:l.length-1 < l.length:=by omega
 have hcap:=ma hI.line;have hy:l[l.length-1]=13:=by
  rw [List.getLast?_eq_getElem?,List.getElem?_eq_getElem hlt] at h13;exact Option.some.inj h13
 have r0:=(hBy.2 (l.length-1) 13 (by rw [List.getElem?_eq_getElem hlt,hy])).1;have hByD:By w gL l.dropLast:=by rw [List.dropLast_eq_take];exact hBy.pre _
 have k0:(0:Int) < (l.length:Int):=by omega
 have k2:(0:Int)≤(l.length:Int)-1:=by omega
 have k3:((l.length:Int)-1).toNat=l.length-1:=by omega
 have k4:((l.length:Int)==0)=false:=by rw [beq_eq_false_iff_ne];omega
 have k5:(l.length:Int)≤(cap:Int):=by omega
 have k6:(l.length:Int)≤1000:=by omega
 have k7:(l.length:Int)-1≤(cap:Int):=by omega
 obtain⟨sB,hsB⟩:=ai ((⟨l.dropLast.toArray⟩:ByteArray));have hst:af sB=l.dropLast:=by rw [←hsB];rfl
 have hsz:sB.size≤300:=by rw [←ag,hst,List.length_dropLast];omega
 have HB:=aa (ab hByD (ab hst hsB));clear hy h13 hBy hByD hsB;subst hc;have hgl:=hI.bk.lt;have hcg:=hI.bk.all;have hzg:=hI.bk.fz;have HI:=aa hI;have hcut:=aG.cut0 hI.line;clear hI;go_in;go_upto_region 9 with (refine aV rfl 34 9 5 _ rfl gL (l.length-1) cap l.dropLast rfl Tryz.underlying34 Tryz.underlying5 Tryz.underlying9 HB.out.1 (by simp) ?_);rw [HB.out.2.2];go_upto_region 11 with fail;obtain⟨w1,hw1⟩:=ai (w.setCell ⟨g,1,none⟩ (.slice (some ⟨gL,0,none⟩) 0 cap));have h1:=HI.out.upd ((Sm.refl _ w).set1 1 (.slice (some ⟨gL,0,none⟩) 0 cap)) ((HI.out.bk.set 1 _).eq rfl) ⟨hcut,fun x e=>e⟩;rw [hw1] at h1 ⊢;have H1:=aa h1;have hc1:=h1.1.bk.all;have hz1:=h1.1.bk.fz;clear hw1 hcg hzg hcut;have HCall:=aa (xV w1 _ g vB vT _ left b sB h1.1 hb (by omega));rw [HB.out.2.1] at HCall;clear h1 hst;go_wp2_with fail;refine HCall.out.mono ?_;intro e w2 h2;have H2:=aa h2;obtain⟨rfl, -, -⟩:=h2;clear hc1 hz1;go_wp2_with fail
 go_end0
 exact aX.up H2.out HI.out.lt H1.out.2
theorem Bh(w:World)(O:Nat→Prop)(g:Nat)(vB vT vL:Value)(left:Int)(b:ah)(e0:Nat)(ts:List aM)(l:ah)(c:UInt8)(hI:dP w O g vB vT vL false 0 left b 3 l e0 ts)(he:e0≤512)(hts:ts.length≤8)(h1l:1 < l.length)(hl:l.length≤300)(h13:l.getLast?=some 13)(hc:c=10):
 Calls Tryz.prog 201 #[.pointer (some ⟨g,0,none⟩),.int .u8 c.toNat] w (aX w O g (cM b l.dropLast e0 ts)):=by
 have h0:0 < l.length:=by
  cases l with
  |nil=>cases h13
  |cons=>simp
 rcases hI.line.by with ⟨_,hn⟩|⟨gL,cap,hv,_,hBy⟩
 ·subst hn;cases h13
 subst hv;have hlt:l.length-1 < l.length:=by omega
 have hcap:=ma hI.line;have hy:l[l.length-1]=13:=by
  rw [List.getLast?_eq_getElem?,List.getElem?_eq_getElem hlt] at h13;exact Option.some.inj h13
 have r0:=(hBy.2 (l.length-1) 13 (by rw [List.getElem?_eq_getElem hlt,hy])).1;have hByD:By w gL l.dropLast:=by rw [List.dropLast_eq_take];exact hBy.pre _
 have k0:(0:Int) < (l.length:Int):=by omega
 have k2:(0:Int)≤(l.length:Int)-1:=by omega
 have k3:((l.length:Int)-1).toNat=l.length-1:=by omega
 have k4:((l.length:Int)==0)=false:=by rw [beq_eq_false_iff_ne];omega
 have k5:(l.length:Int)≤(cap:Int):=by omega
 have k6:(l.length:Int)≤1000:=by omega
 have k7:(l.length:Int)-1≤(cap:Int):=by omega
 obtain⟨sB,hsB⟩:=ai ((⟨l.dropLast.toArray⟩:ByteArray));have hst:af sB=l.dropLast:=by rw [←hsB];rfl
 have hsz:sB.size≤300:=by rw [←ag,hst,List.length_dropLast];omega
 have hszn:sB.size=l.length-1:=by rw [←ag,hst,List.length_dropLast]
 have z1:¬sB.toList=[]:=by rw [ByteArray.toList_eq];exact fun e=>by have h9:(af sB).length=0:=(by show sB.data.toList.length=0;rw [e];rfl);rw [ag] at h9;omega
 have z2:sB.toList.isEmpty=false:=by
  cases h:sB.toList with
  |nil=>exact absurd h z1
  |cons=>rfl
 have HB:=aa (ab hByD (ab hst hsB));clear hy h13 hBy hByD hsB;subst hc;have hgl:=hI.bk.lt;have hcg:=hI.bk.all;have hzg:=hI.bk.fz;have HI:=aa hI;have hcut:=aG.cut0 hI.line;clear hI;go_in;go_upto_region 9 with (refine aV rfl 34 9 5 _ rfl gL (l.length-1) cap l.dropLast rfl Tryz.underlying34 Tryz.underlying5 Tryz.underlying9 HB.out.1 (by simp) ?_);rw [HB.out.2.2];go_upto_region 11 with fail;obtain⟨w1,hw1⟩:=ai (w.setCell ⟨g,1,none⟩ (.slice (some ⟨gL,0,none⟩) 0 cap));have h1:=HI.out.upd ((Sm.refl _ w).set1 1 (.slice (some ⟨gL,0,none⟩) 0 cap)) ((HI.out.bk.set 1 _).eq rfl) ⟨hcut,fun x e=>e⟩;rw [hw1] at h1 ⊢;have H1:=aa h1;have hc1:=h1.1.bk.all;have hz1:=h1.1.bk.fz;clear hw1 hcg hzg hcut;have HCall:=aa (qI w1 _ g vB vT _ left b e0 ts sB h1.1 hts he (by omega) (by rw [←ag,hst,List.length_dropLast];omega));rw [HB.out.2.1] at HCall;clear h1 hst;go_wp2_with fail;refine HCall.out.mono ?_;intro e w2 h2;have H2:=aa h2;obtain⟨rfl, -, -⟩:=h2;clear hc1 hz1;go_wp2_with fail
 go_end0
 exact aX.up H2.out HI.out.lt H1.out.2
theorem Gc(w:World)(O:Nat→Prop)(g:Nat)(vB vT vL:Value)(left:Int)(b:ah)(e0:Nat)(ts:List aM)(l:ah)(c:UInt8)(hI:dP w O g vB vT vL false 0 left b 3 l e0 ts)(h1l:l.length=1)(hl:l.length≤300)(h13:l.getLast?=some 13)(hc:c=10):
 Calls Tryz.prog 201 #[.pointer (some ⟨g,0,none⟩),.int .u8 c.toNat] w (aX w O g (.whole b)):=by
 have h0:0 < l.length:=by
  cases l with
  |nil=>cases h13
  |cons=>simp
 rcases hI.line.by with ⟨_,hn⟩|⟨gL,cap,hv,_,hBy⟩
 ·subst hn;cases h13
 subst hv;have hlt:l.length-1 < l.length:=by omega
 have hcap:=ma hI.line;have hy:l[l.length-1]=13:=by
  rw [List.getLast?_eq_getElem?,List.getElem?_eq_getElem hlt] at h13;exact Option.some.inj h13
 have r0:=(hBy.2 (l.length-1) 13 (by rw [List.getElem?_eq_getElem hlt,hy])).1;have hByD:By w gL l.dropLast:=by rw [List.dropLast_eq_take];exact hBy.pre _
 have k0:(0:Int) < (l.length:Int):=by omega
 have k2:(0:Int)≤(l.length:Int)-1:=by omega
 have k3:((l.length:Int)-1).toNat=l.length-1:=by omega
 have k4:((l.length:Int)==0)=false:=by rw [beq_eq_false_iff_ne];omega
 have k5:(l.length:Int)≤(cap:Int):=by omega
 have k6:(l.length:Int)≤1000:=by omega
 have k7:(l.length:Int)-1≤(cap:Int):=by omega
 obtain⟨sB,hsB⟩:=ai ((⟨l.dropLast.toArray⟩:ByteArray));have hst:af sB=l.dropLast:=by rw [←hsB];rfl
 have hsz:sB.size≤300:=by rw [←ag,hst,List.length_dropLast];omega
 have hszn:sB.size=l.length-1:=by rw [←ag,hst,List.length_dropLast]
 have z1:sB.toList=[]:=by rw [ByteArray.toList_eq];exact List.eq_nil_of_length_eq_zero (by show (af sB).length=0;rw [ag];omega)
 clear h1l hszn;have HB:=aa (ab hByD (ab hst hsB));clear hy h13 hBy hByD hsB;subst hc;have hgl:=hI.bk.lt;have hcg:=hI.bk.all;have hzg:=hI.bk.fz;have HI:=aa hI;have hcut:=aG.cut0 hI.line;clear hI;go_in;go_upto_region 9 with (refine aV rfl 34 9 5 _ rfl gL (l.length-1) cap l.dropLast rfl Tryz.underlying34 Tryz.underlying5 Tryz.underlying9 HB.out.1 (by simp) ?_);rw [HB.out.2.2];go_upto_region 11 with fail;obtain⟨w1,hw1⟩:=ai (w.setCell ⟨g,1,none⟩ (.slice (some ⟨gL,0,none⟩) 0 cap));have h1:=HI.out.upd ((Sm.refl _ w).set1 1 (.slice (some ⟨gL,0,none⟩) 0 cap)) ((HI.out.bk.set 1 _).eq rfl) ⟨hcut,fun x e=>e⟩;rw [hw1] at h1 ⊢;have H1:=aa h1;have hc1:=h1.1.bk.all;have hz1:=h1.1.bk.fz;clear hw1 hcg hzg hcut;clear h1 hst;go_wp2_with fail
 go_end0
 have h:=H1.out.1.upd (wh':=true) ((Sm.refl _ w1).set1 6 (.bool true)) ((H1.out.1.bk.set 6 _).eq rfl) ⟨H1.out.1.line,fun x e=>e⟩;exact aX.up ⟨rfl,⟨_,_,_,_,_,_,_,_,h.1⟩,h.2⟩ HI.out.lt H1.out.2
theorem C8(w:World)(O:Nat→Prop)(g:Nat)(vB vT vL:Value)(b:ah)(c:UInt8)(n:Nat)(hn2:n≤16777216)(hI:dP w O g vB vT vL false 0 n b 1 [] 0 [])(hb:b.length≤1000000)(hn:n=1):Calls Tryz.prog 181 #[.pointer (some ⟨g,0,none⟩),.int .u8 c.toNat] w (aX w O g (.at (b++[c]) (.tail 0))):=by
 subst hn;obtain⟨A,cp,hv, -⟩:=hI.body.slice;subst hv;have hgl:=hI.bk.lt;have hcg:=hI.bk.all;have hzg:=hI.bk.fz;have HI:=aa hI;clear hI;go_in;go_wp2_with (at_builtin;refine eQ rfl _ _ rfl c (.slice A b.length cp) b rfl HI.out.body rfl (by omega) ?_;intro v' w5 hO5 hs5 hv5;have hb5:=HI.out.bk.sm hs5 HI.out.neB;have hc5:=hb5.all;have hz5:=hb5.fz;have hl5:=hb5.lt;obtain⟨A5,cp5,hv6, -⟩:=hO5.slice;have hv7:v'=.slice A5 (b.length+1) cp5:=hv6.trans (by simp);clear hv6;subst hv7;have H5:=aa (ab hb5 (ab hO5 (ab hs5 hv5)));clear hO5 hs5 hv5 hb5)
 go_end0
 obtain⟨hb5,hO5,hs5,hv5⟩:=H5.out;have h:=HI.out.putB hO5 hs5 hv5 (((((Sm.refl _ w5).set1 3 _).set1 2 (.int .i64 0)).set1 0 (.int .i64 2)).set1 2 (.int .i64 2)) (((((hb5.set 3 _).set 2 (.int .i64 0)).set 0 (.int .i64 2)).set 2 (.int .i64 2)).eq rfl);exact⟨rfl,⟨_,vT,vL,2,h.1,rfl⟩,h.2⟩
theorem Bi(w:World)(O:Nat→Prop)(g:Nat)(vB vT vL:Value)(b:ah)(c:UInt8)(n:Nat)(hn2:n≤16777216)(hI:dP w O g vB vT vL false 0 n b 1 [] 0 [])(hb:b.length≤1000000)(hn:1 < n):Calls Tryz.prog 181 #[.pointer (some ⟨g,0,none⟩),.int .u8 c.toNat] w (aX w O g (.at (b++[c]) (.data (n-1)))):=by
 have e1:((n:Int)-1==0)=false:=by rw [beq_eq_false_iff_ne];omega
 have e2:(1:Int)≤(n:Int):=by omega
 have e3:(n:Int)≤16777216:=by omega
 obtain⟨A,cp,hv, -⟩:=hI.body.slice;subst hv;have hgl:=hI.bk.lt;have hcg:=hI.bk.all;have hzg:=hI.bk.fz;have HI:=aa hI;clear hI;go_in;go_wp2_with (at_builtin;refine eQ rfl _ _ rfl c (.slice A b.length cp) b rfl HI.out.body rfl (by omega) ?_;intro v' w5 hO5 hs5 hv5;have hb5:=HI.out.bk.sm hs5 HI.out.neB;have hc5:=hb5.all;have hz5:=hb5.fz;have hl5:=hb5.lt;obtain⟨A5,cp5,hv6, -⟩:=hO5.slice;have hv7:v'=.slice A5 (b.length+1) cp5:=hv6.trans (by simp);clear hv6;subst hv7;have H5:=aa (ab hb5 (ab hO5 (ab hs5 hv5)));clear hO5 hs5 hv5 hb5)
 go_end0
 obtain⟨hb5,hO5,hs5,hv5⟩:=H5.out;have h:=HI.out.putB hO5 hs5 hv5 (((Sm.refl _ w5).set1 3 _).set1 2 (.int .i64 ((n:Int)-1))) (((hb5.set 3 _).set 2 (.int .i64 ((n:Int)-1))).eq rfl);exact⟨rfl,⟨_,vT,vL,(n:Int)-1,h.1,by show (n:Int)-1=((n-1:Nat):Int);omega⟩,h.2⟩
theorem AD(w:World)(O:Nat→Prop)(g:Nat)(vB vT vL:Value)(b:ah)(c:UInt8)(hI:dP w O g vB vT vL false 0 2 b 2 [] 0 [])(hc:c≠13):Calls Tryz.prog 181 #[.pointer (some ⟨g,0,none⟩),.int .u8 c.toNat] w (aX w O g (.bad 400)):=by
 have hgl:=hI.bk.lt;have hcg:=hI.bk.all;have hzg:=hI.bk.fz;have HI:=aa hI;clear hI;have e1:((c.toNat:Int)==13)=false:=dq (n:=13) (by decide) hc;have e2:((c.toNat:Int) != 13)=true:=by simpa using e1
 clear hc;have hix:∀ w:World,(Instr.index 261 (.agg #[.int .u8 10,.int .u8 13]) (.int .i64 1)).run Tryz.prog w=.ok (.int .u8 13) w:=fun _=>by kernel_rfl
 go_in;go_wp2_with fail
 go_end0
 exact aX.bad HI.out (Sm.refl No w) 400
theorem yo(w:World)(O:Nat→Prop)(g:Nat)(vB vT vL:Value)(b:ah)(c:UInt8)(hI:dP w O g vB vT vL false 0 2 b 2 [] 0 [])(hc:c=13):Calls Tryz.prog 181 #[.pointer (some ⟨g,0,none⟩),.int .u8 c.toNat] w (aX w O g (.at b (.tail 1))):=by
 subst hc;have hgl:=hI.bk.lt;have hcg:=hI.bk.all;have hzg:=hI.bk.fz;have HI:=aa hI;clear hI;have hix:∀ w:World,(Instr.index 261 (.agg #[.int .u8 10,.int .u8 13]) (.int .i64 1)).run Tryz.prog w=.ok (.int .u8 13) w:=fun _=>by kernel_rfl
 go_in;go_wp2_with fail
 go_end0
 have h:=HI.out.upd ((Sm.refl _ w).set1 2 (.int .i64 1)) ((HI.out.bk.set 2 (.int .i64 1)).eq rfl) ⟨HI.out.line,fun x e=>e⟩;exact⟨rfl,⟨_,_,_,_,h.1,rfl⟩,h.2⟩
theorem zC(w:World)(O:Nat→Prop)(g:Nat)(vB vT vL:Value)(b:ah)(c:UInt8)(hI:dP w O g vB vT vL false 0 1 b 2 [] 0 [])(hc:c≠10):Calls Tryz.prog 181 #[.pointer (some ⟨g,0,none⟩),.int .u8 c.toNat] w (aX w O g (.bad 400)):=by
 have hgl:=hI.bk.lt;have hcg:=hI.bk.all;have hzg:=hI.bk.fz;have HI:=aa hI;clear hI;have e1:((c.toNat:Int)==10)=false:=dq (n:=10) (by decide) hc;have e2:((c.toNat:Int) != 10)=true:=by simpa using e1
 clear hc;have hix:∀ w:World,(Instr.index 261 (.agg #[.int .u8 10,.int .u8 13]) (.int .i64 0)).run Tryz.prog w=.ok (.int .u8 10) w:=fun _=>by kernel_rfl
 go_in;go_wp2_with fail
 go_end0
 exact aX.bad HI.out (Sm.refl No w) 400
theorem zu(w:World)(O:Nat→Prop)(g:Nat)(vB vT vL:Value)(b:ah)(c:UInt8)(hI:dP w O g vB vT vL false 0 1 b 2 [] 0 [])(hc:c=10):Calls Tryz.prog 181 #[.pointer (some ⟨g,0,none⟩),.int .u8 c.toNat] w (aX w O g (.at b (.size []))):=by
 subst hc;have hgl:=hI.bk.lt;have hcg:=hI.bk.all;have hzg:=hI.bk.fz;have HI:=aa hI;clear hI;have hix:∀ w:World,(Instr.index 261 (.agg #[.int .u8 10,.int .u8 13]) (.int .i64 0)).run Tryz.prog w=.ok (.int .u8 10) w:=fun _=>by kernel_rfl
 go_in;go_wp2_with fail
 go_end0
 have h:=HI.out.upd (((Sm.refl _ w).set1 2 (.int .i64 0)).set1 0 (.int .i64 0)) (((HI.out.bk.set 2 (.int .i64 0)).set 0 (.int .i64 0)).eq rfl) ⟨HI.out.line,fun x e=>e⟩;exact⟨rfl,⟨_,_,_,_,h.1,trivial⟩,h.2⟩
theorem xH (w:World) (O:Nat→Prop) (g:Nat) (vB vT vL:Value) (left st e0:Int) (b l:ah) (ts:List aM) (c:UInt8) (Q:eW) (hI:dP w O g vB vT vL false 0 left b st l e0 ts) (hst:st=0∨st=3)
 (hC:Calls Tryz.prog 201 #[.pointer (some ⟨g,0,none⟩),.int .u8 c.toNat] w (aX w O g Q)):Calls Tryz.prog 181 #[.pointer (some ⟨g,0,none⟩),.int .u8 c.toNat] w (aX w O g Q):=by
 have hgl:=hI.bk.lt;have hcg:=hI.bk.all;have hzg:=hI.bk.fz;have HI:=aa hI;clear hI;have HC:=aa hC;clear hC;rcases hst with rfl|rfl
 all_goals
  go_in;go_wp2_with fail;refine HC.out.mono ?_;intro e w2 h2;have H2:=aa h2;obtain⟨rfl, -, -⟩:=h2;clear hcg hzg;go_wp2_with fail
  go_end0
  exact H2.out
def DV(w:World)(O:Nat→Prop)(g:Nat)(b:ah)(p:dG):Prop:=∃ vB vT vL left,dP w O g vB vT vL false 0 left b p.st p.lineP p.ends p.ts∧p.left left
theorem gI.at{w w':World}{O:Nat→Prop}{g:Nat}{vB vT:Value}{left:Int}{b L:ah}{st e0:Int}{ts:List aM}{e:Ending}{p:dG}(h:gI w O g vB vT left b st L e0 ts 0 e w')(h1:p.st=st)(h2:p.lineP=L)(h3:(p.ends:Int)=e0)(h4:p.ts=ts)(h5:∀ x,p.left x):aX w O g (.at b p) e w':=by
 subst h1 h2 h3 h4;obtain⟨h6,⟨vL',h7⟩,h8⟩:=h;exact⟨h6,⟨_,_,_,_,h7,h5 _⟩,h8⟩
theorem gI.bad{w w':World}{O:Nat→Prop}{g:Nat}{vB vT:Value}{left:Int}{b L:ah}{st e0:Int}{ts:List aM}{e:Ending}{c:Int}(h:gI w O g vB vT left b st L e0 ts c e w'):aX w O g (.bad c) e w':=by
 obtain⟨h6,⟨vL',h7⟩,h8⟩:=h;exact⟨h6,⟨_,_,_,_,_,_,_,_,_,h7⟩,h8⟩
theorem Bj(w:World)(O:Nat→Prop)(g:Nat)(vB vT vL:Value)(left:Int)(b:ah)(st e0:Int)(ts:List aM)(l:ah)(c:UInt8)(hI:dP w O g vB vT vL false 0 left b st l e0 ts)(hst:st=0∨st=3)(he:0≤e0∧e0≤1000)(hl:l.length≤300)(h10:c≠10):
 Calls Tryz.prog 201 #[.pointer (some ⟨g,0,none⟩),.int .u8 c.toNat] w (gI w O g vB vT left b st (l++[c]) e0 ts (fk st (cG l c) e0)):=by
 by_cases h13:c=13
 ·exact Gu w O g vB vT vL left b st e0 ts l c hI hst he hl h13
 ·exact Gx w O g vB vT vL left b st e0 ts l c hI hst he hl h10 h13
theorem ui(w:World)(O:Nat→Prop)(g:Nat)(b:ah)(p:dG)(c:UInt8)(hI:DV w O g b p)(ho:lN b p):
 Calls Tryz.prog 181 #[.pointer (some ⟨g,0,none⟩),.int .u8 c.toNat] w (aX w O g (fM b p c)):=by
 obtain⟨vB,vT,vL,left,hI,hleft⟩:=hI;have hb:=ho.body;have ha:=ho.pl
 cases p with
 |data n=>
  have e:left=n:=hleft;subst e;by_cases h1:n=1
  ·rw [show fM b (.data n) c=.at (b++[c]) (.tail 0) from by rw [gu];rw [if_pos h1]];exact C8 w O g vB vT vL b c n (by omega) hI (by omega) h1
  ·rw [show fM b (.data n) c=.at (b++[c]) (.data (n-1)) from by rw [gu];rw [if_neg h1]];exact Bi w O g vB vT vL b c n (by have:=ha.2;omega) hI (by omega) (by have:=ha.1;omega)
 |tail k=>
  have hk:k≤1:=ha.1;have e:left=((2-k:Nat):Int):=hleft
  match k,hk,hI,e with
  |0,_,hI,e=>
   have e:left=2:=e;subst e;by_cases hc:c=13
   ·rw [show fM b (.tail 0) c=.at b (.tail 1) from if_pos hc];exact yo w O g vB vT vL b c hI hc
   ·rw [show fM b (.tail 0) c=.bad 400 from if_neg hc];exact AD w O g vB vT vL b c hI hc
  |1,_,hI,e=>
   have e:left=1:=e;subst e;by_cases hc:c=10
   ·rw [show fM b (.tail 1) c=.at b (.size []) from if_pos hc];exact zu w O g vB vT vL b c hI hc
   ·rw [show fM b (.tail 1) c=.bad 400 from if_neg hc];exact zC w O g vB vT vL b c hI hc
 |size l=>
  have hl:l.length≤65:=ha;have hI:dP w O g vB vT vL false 0 left b 0 l 0 []:=hI;refine xH w O g vB vT vL left 0 0 b l [] c _ hI (Or.inl rfl) ?_;by_cases h10:c=10
  ·by_cases h13:l.getLast?=some 13
   ·rw [show fM b (.size l) c=dM b l.dropLast from by rw [fG];rw [if_pos h10,iM h13]];exact DO w O g vB vT vL left b l c hI hb (by omega) h13 h10
   ·rw [show fM b (.size l) c=.bad 400 from by rw [fG];rw [if_pos h10,hU h13]];by_cases h0:l.length=0
    ·have:=List.eq_nil_of_length_eq_zero h0;subst this;exact EM w O g vB vT vL left b 0 0 [] c hI h10
    ·exact EN w O g vB vT vL left b 0 0 [] l c hI (by omega) (by omega) (qH h13) h10
  ·have hP:=Bj w O g vB vT vL left b 0 0 [] l c hI (Or.inl rfl) ⟨by decide,by decide⟩ (by omega) h10;rw [fG,if_neg h10];by_cases hk:64 < cG l c
   ·rw [if_pos hk];rw [show fk 0 (cG l c) 0=400 from by unfold fk;rw [if_pos ⟨rfl,by omega⟩]] at hP;exact hP.mono fun e w' h=>h.bad
   ·rw [if_neg hk];rw [show fk 0 (cG l c) 0=0 from by unfold fk;rw [if_neg (fun h=>by omega),if_neg (fun h=>absurd h.1 (by decide))]] at hP;exact hP.mono fun e w' h=>h.at rfl rfl rfl rfl (fun _=>trivial)
 |trail l e0 ts=>
  obtain⟨hl,he,ht⟩:=ha;have hI:dP w O g vB vT vL false 0 left b 3 l e0 ts:=hI;refine xH w O g vB vT vL left 3 e0 b l ts c _ hI (Or.inr rfl) ?_;by_cases h10:c=10
  ·by_cases h13:l.getLast?=some 13
   ·rw [show fM b (.trail l e0 ts) c=cM b l.dropLast e0 ts from by rw [ej];rw [if_pos h10,iM h13]];have hlp:l≠[]:=fun e=>by rw [e] at h13;cases h13
    have hl0:0 < l.length:=List.length_pos_iff.2 hlp;by_cases h1:l.length=1
    ·rw [show cM b l.dropLast e0 ts=.whole b from by
      have:l.dropLast=[]:=List.eq_nil_of_length_eq_zero (by rw [List.length_dropLast];omega);rw [this];rfl]
     exact Gc w O g vB vT vL left b e0 ts l c hI h1 (by omega) h13 h10
    ·exact Bh w O g vB vT vL left b e0 ts l c hI he ht (by omega) (by omega) h13 h10
   ·rw [show fM b (.trail l e0 ts) c=.bad 400 from by rw [ej];rw [if_pos h10,hU h13]];by_cases h0:l.length=0
    ·have:=List.eq_nil_of_length_eq_zero h0;subst this;exact EM w O g vB vT vL left b 3 e0 ts c hI h10
    ·exact EN w O g vB vT vL left b 3 e0 ts l c hI (by omega) (by omega) (qH h13) h10
  ·have hP:=Bj w O g vB vT vL left b 3 e0 ts l c hI (Or.inr rfl) ⟨by omega,by omega⟩ (by omega) h10;rw [ej,if_neg h10];by_cases hk:256 < cG l c∨512 < e0+cG l c
   ·rw [if_pos hk];rw [show fk 3 (cG l c) e0=431 from by unfold fk;rw [if_neg (fun h=>absurd h.1 (by decide)),if_pos ⟨rfl,by omega⟩]] at hP;exact hP.mono fun e w' h=>h.bad
   ·rw [if_neg hk];rw [show fk 3 (cG l c) e0=0 from by unfold fk;rw [if_neg (fun h=>absurd h.1 (by decide)),if_neg (fun h=>by omega)]] at hP;exact hP.mono fun e w' h=>h.at rfl rfl rfl rfl (fun _=>trivial)
end Go.Proofs.YtadcjgopaadfjaaGreatDoor
