import Derived.Test.YtadcjgopaadfjaaGreatDoorQM
import Derived.Test.YtadcjgopaadfjaaGreatDoorQB
import Derived.Test.YtadcjgopaadfjaaGreatDoorQE
import Derived.Deep.RegionLaw
import Derived.Test.YtadcjgopaadfjaaGreatDoorQD
set_option maxHeartbeats 16000000
set_option maxRecDepth 100000
namespace Go.Proofs.YtadcjgopaadfjaaGreatDoor
open Go.RowKit Go.Proofs
theorem C7(s:ByteArray)(hs:s.size≤1000000)(h:yV (af s)=false)(w:World):Calls Tryz.prog 135 #[.string s] w fun e w'=>e=.returned (.bool false)∧Sm No w w':=by
 unfold yV at h;simp only [Bool.or_eq_false_iff] at h;have HA:=aa h.2.1;have HB:=aa h.1;have HC:=aa h.2.2;clear h;go_in;go_wp2_with fail;refine(jY (t:=gS) (r:=false) HA hs (by decide) _).mono ?_;rintro e w1 ⟨rfl,hs1⟩;have H1:=aa hs1;clear hs1;go_wp2_with fail;refine(jY (t:=eH) (r:=false) HB hs (by decide) _).mono ?_;rintro e w2 ⟨rfl,hs2⟩;have H2:=aa (H1.out.tt hs2);clear hs2;go_wp2_with fail;refine(jY (t:=lJ) (r:=false) HC hs (by decide) _).mono ?_;rintro e w3 ⟨rfl,hs3⟩;have H3:=aa (H2.out.tt hs3);clear hs3;go_wp2_with fail;go_ret;exact⟨rfl,H3.out⟩
theorem rz:∀ (l cur:List aM),(∀ x∈l,oz x=true)→cur.length+l.length≤24→(bh cur l).2.1=l.length∧(bh cur l).2.2=0
 |[],cur,_,_=>⟨rfl,rfl⟩
 |x::l,cur,h,hl=>by
  have hx:=h x (List.mem_cons_self ..);have h1:=oV (cur:=cur) (add:=x::l) (k:=0) (by simp) (by simpa using hx) (by simp at hl;omega);have h2:=rz l (cur++[x]) (fun y hy=>h y (List.mem_cons_of_mem _ hy)) (by simp at hl ⊢;omega);rw [List.drop_zero] at h1;rw [h1];simp only [List.getElem_cons_zero,List.drop_succ_cons,List.drop_zero] at h2 ⊢;exact⟨by simp [h2.1],h2.2⟩
def Ha(w1:World)(n:Nat)(i:Value)(wr:World):Prop:=∃ k:Nat,k≤n∧i=.int .i64 k∧Sm No w1 wr
theorem zn(w:World)(r:fQ)(A1 A2 A3:Option Addr)(c1 c2 c3:Nat)(hn:hY r)(hp:r.parts=[])(h1:ec w A1 r.fs):
 Calls Tryz.prog 105 #[.agg #[.int .i64 r.st,.slice A1 r.fs.length c1,.slice A2 r.body.length c2,.slice A3 0 c3]] w fun e w'=>e=.returned (.bool true)∧Sm No w w':=by
 obtain⟨st,fs,body,parts⟩:=r;dsimp only at hp h1 ⊢;subst hp;have hst:=hn.st;have hlen:=hn.len;dsimp only at hst hlen;have hX:∀ x∈fs,oz x=true∧yV (af x.1)=false∧x.1.size≤1000000∧x.2.size≤1000000:=fun x hx=>by
  have h:=hn.fld x hx;have h2:=h.1;unfold fI at h2;rw [ag,ag] at h;simp only [Bool.and_eq_true,Bool.not_eq_true'] at h2;exact⟨h2.1,h2.2,by omega,by omega⟩
 have hadd:=rz fs [] (fun x hx=>(hX x hx).1) (by simp;omega);have i1:¬st < 200:=by omega
 have i2:¬(599:Int) < st:=by omega
 have hnb:body.length=0∨bR st=false:=by
  have h:=hn.nob;dsimp only at h;simp only [Bool.or_eq_true,Bool.not_eq_true'] at h;rcases h with h|h
  ·exact Or.inl (by simpa using h)
  ·exact Or.inr h
 have H:=aa (ab h1 (ab hX (ab hadd hlen)));obtain⟨r0,hr0⟩:=ai w.heap.size;obtain⟨m,hm⟩:=ai body.length;rw [hm] at hnb ⊢;obtain⟨w1,hw1⟩:∃ w1,w.alloc (.cells #[.int .i64 st,.slice A1 fs.length c1,.slice A2 m c2,.slice A3 0 c3] 93)=w1:=⟨_,rfl⟩;have hb1:Bk w1 r0 93 #[.int .i64 st,.slice A1 fs.length c1,.slice A2 m c2,.slice A3 0 c3]:=by rw [←hw1,←hr0];exact Bk.new w _ _
 have hs1:Sm No w w1:=by rw [←hw1];exact(Sm.refl No w).alloc _
 have H1:=aa (ab hw1 (ab hr0 (ab hs1 hb1)));have d0:=hb1.at 0 rfl;have d1:=hb1.at 1 rfl;have d2:=hb1.at 2 rfl;have dl:=hb1.lt;clear hw1 hr0 hs1 hb1 h1 hX hadd hlen hn hm;go_in;go_upto_region 1 with fail;rw [H1.out.1,H1.out.2.1];have HNb:=aa hnb;have HAdd:=aa (fun (W W1:World) (g:Nat) (v:Value) (hW:Sm No w1 W) (h2:W.heap.size≤g) (h3:aA W1 W.heap.size g 214 v (bh [] []).1) (h4:Sm No W W1)=>
  show Calls Tryz.prog 134 #[.pointer (some ⟨g,0,none⟩),.slice A1 fs.length c1] W1 fun e w'=>e=.returned (.tuple #[.int .i64 (fs.length:Int),.int .i64 0])∧Sm No w1 w' from by
   have hlo:=World.ownsRow.lt h3.2.1;refine(qO W1 W.heap.size g v [] fs A1 c1 h3 (by decide) ((((H.out.1.no H1.out.2.2.1).no hW)).no h4) (fun h0 a ha e=> ?_) (fun x hx=>⟨(H.out.2.1 x hx).2.2.1,(H.out.2.1 x hx).2.2.2⟩) (by have:=H.out.2.2.2;omega) h4.size).mono ?_
   ·obtain⟨bb,off,e2,hb,_⟩:=(H.out.1.no H1.out.2.2.1) 0 h0;rw [ha] at e2;injection e2 with e2;subst e2;have h5:=hW.size;rcases e with e|e
    ·have e:bb=g:=e;omega
    ·have:=(hlo _ e).1;dsimp only at this;omega
   ·rintro e w' ⟨v',rfl,_,_,h6,_⟩;rw [H.out.2.2.1.1,H.out.2.2.1.2];exact⟨rfl,(hW.tt h4).fresh h6 (fun b e=>by
     have h5:=hW.size;rcases e with e|e
     ·omega
     ·have:=(hlo b e).1;omega)⟩)
 have HOf:=aa (show Calls Tryz.prog 112 #[.slice none 0 0] w1.drew (C1 w1.drew []) from wz w1.drew [] none 0 (fun k hk=>absurd hk (Nat.not_lt_zero _)) (fun x hx=>by cases hx) (by decide));clear hnb
 go_cut [28] from 10 to 28 (fun a wx=>a=.bool false∧wx=w1)
 case first=>
  by_cases hm0:m=0
  ·have j0:¬(0:Int) < (m:Int):=by omega
   clear hm0;go_wp2_with fail;go_meet;exact⟨rfl,rfl⟩
  ·have j0:(0:Int) < (m:Int):=by omega
   have HNB:=aa (HNb.out.resolve_left hm0);clear hm0;go_wp2_with fail;refine(gO w1 st).mono ?_;rintro e w2 ⟨rfl,rfl⟩;rw [HNB.out];go_wp2_with fail;go_meet;exact⟨rfl,rfl⟩
 case rest=>
  obtain⟨rfl,hwc⟩:=hcut;subst hwc;go_upto_region 3 with fail;have q1:wc.drew.cell? ⟨r0,1,none⟩=some (.slice A1 fs.length c1):=d1;have HTy:=aa (show ∀ W,Sm No wc W→W.cell? ⟨r0,1,none⟩=some (.slice A1 fs.length c1) from fun W h=>h.cell dl d1)
  go_cut [3,4] from 29 to 35 (fun a b wx=>a=.int .i64 (fs.length:Int)∧b=.int .i64 0∧Sm No wc wx)
  case first=>as_aux_lemma=>
   go_region_held3 (fun w'=>w'.cell? ⟨r0,1,none⟩=some (.slice A1 fs.length c1)) (refine HTy.out _ (by first|with_reducible exact Sm.refl _ _|with_reducible assumption|exact(Sm.refl No wc).drew))
    (first
     |(go_at_call 112;(with_reducible refine HOf.out.mono ?_);rintro e w5 ⟨g5,v5,rfl,h52,h53, -,h54⟩;have hs5:=(Sm.refl No wc).drew.tt h54;have s1:=hs5.cell dl d1)
     |(go_at_call 134;(with_reducible refine(HAdd.out wc.drew w5 g5 v5 (Sm.refl No wc).drew h52 h53 h54).mono ?_);rintro e w6 ⟨rfl,hs6⟩))
   go_wp2_with fail;go_meet;exact⟨rfl,rfl,hs6⟩
  case rest=>
   obtain⟨rfl,rfl,hs3⟩:=hcut;have hb3:=H1.out.2.2.2.sm hs3 (fun e=>e);have e1:=hb3.at 1 (v:=.slice A1 fs.length c1) rfl;have e3:=hb3.at 3 (v:=.slice A3 0 c3) rfl;have el:=hb3.lt;have H3:=aa (ab hs3 hb3);clear hs3 hb3 d0 d1 d2 dl q1;go_wp2_with fail
   go_loopw [48] (fun i wr=>Ha _ fs.length i wr) (fun i _=>fs.length-(intOf i).toNat)
   case atStart=>exact⟨0,Nat.zero_le _,rfl,Sm.refl _ _⟩
   case round=>as_aux_lemma=>
    obtain⟨k,hk,rfl,hs⟩:=hrel;have hsw:=H1.out.2.2.1.tt (H3.out.1.trans hs (fun _ _ h=>h));have hbr:=H3.out.2.sm hs (fun h=>h);have q3:=hbr.at 3 (v:=.slice A3 0 c3) rfl;have q1:=hbr.at 1 (v:=.slice A1 fs.length c1) rfl;have ql:=hbr.lt;have HS:=aa (ab hsw (ab hbr hs));clear hsw hbr hs e1 e3 el;by_cases hlt:k < fs.length
    ·obtain⟨bb,off,hAe,hbb,f0,f1⟩:=(H.out.1.no HS.out.1) k hlt;obtain⟨-,hown,z1,z2⟩:=H.out.2.1 fs[k] (List.getElem_mem hlt);subst hAe;obtain⟨nm,hnm⟩:∃ x,fs[k].1=x:=⟨_,rfl⟩;obtain⟨vl,hvl⟩:∃ x,fs[k].2=x:=⟨_,rfl⟩;rw [hnm] at f0 hown z1;rw [hvl] at f1;have HO:=aa (fun W=>C7 nm z1 hown W);have k1:(0:Int)≤(k:Int):=by omega
     have k2:(k:Int) < (fs.length:Int):=by omega
     have k3:(k:Int)≤100:=by have:=H.out.2.2.2;omega
     clear hnm hvl hown z1 z2;go_wp2_with fail;refine(HO.out _).mono ?_;rintro e w5 ⟨rfl,hs5⟩;have H5:=aa ((HS.out.2.2.alloc (.cells #[.string nm,.string vl] 143)).tt hs5);clear hs5;go_wp2_with fail;exact⟨⟨k+1,by omega,by go_num,H5.out⟩,by simp [intOf];omega⟩
    ·have hke:k=fs.length:=by omega
     subst hke;clear hlt hk;go_wp2_with fail
     go_loop [7,59] (fun l i=>l=.int .i64 0∧i=.int .i64 0) (fun _ _=>0)
     case atStart=>exact⟨rfl,rfl⟩
     case round=>
      obtain⟨rfl,rfl⟩:=hrel;go_wp2_with fail;go_ret;exact⟨rfl,HS.out.1⟩
theorem jX {E:Prop} {K:Act→World→Prop} {ops:Array Oper} {o:Oper} {a:Act} {w:World} {Q:Exit→Act→World→Prop} (hgd:o.guard=none) (s x:Operand) (ho:o.op=.call {callee:=.builtin .append,args:=#[s,x],argTypes:=#[34,9]})
 (B:Nat) (hB:B≤w.heap.size) (b:ByteArray) (v:Value) (l:ah) (hs:a.eval s=v) (hO:aG w B v l) (hx:a.eval x=.string b) (hl:l.length+b.size≤1000000)
 (h:∀ A' c' w',aG w' B (.slice A' (l.length+b.size) c') (l++af b)→Sm (fun b=>v.ownBlock=some b) w w'→K (a.put o.dst (.slice A' (l.length+b.size) c')) w'):
 if Region.wanted o (yielded ops a.tmps)=true then Oper.wp Tryz.prog o a w K Q else E:=by
 have hw:Region.wanted o (yielded ops a.tmps)=true:=by simp [Region.wanted,hgd]
 rw [if_pos hw];obtain⟨i0,hi0,hz0,hz1,hz2⟩:=info_parts fC;obtain⟨v',w',hr,h2,h3,_⟩:=Lib.run_append_own_string (P:=Tryz.prog) w B 34 9 o.type 5 i0 Tryz.underlying34 Tryz.underlying9 hi0 hz0 hz1 hz2 v l.length (l.map aU) hO b (by unfold maxLen;omega) (by omega) hB;obtain⟨A',c',rfl,_,_,_⟩:=au h2;unfold Oper.wp execOp;simp only [ho,resolve,invoke,builtin,Sem.run_bind,Sem.run_pure,Result.andThen_ok,List.map_toArray,List.map_cons,List.map_nil,hs,hx,hr];refine h A' c' w' ?_ ((Sm.refl _ w).grown h3 (fun k hk=>Or.inl hk));have e:(l++af b).length=l.length+b.size:=by rw [List.length_append,ag]
 show w'.ownsRow B 5 1 _ (l++af b).length ((l++af b).map aU);rw [e,List.map_append];exact h2
def sD(w:World)(B bb:Nat)(L:ah):Prop:=∃ v,Bk w bb 34 #[v]∧aG w B v L∧v.ownBlock≠some bb
theorem sD.no{w w':World}{B bb:Nat}{L:ah}(h:sD w B bb L)(hs:Sm No w w'):sD w' B bb L:=by
 obtain⟨v,h1,h2,h3⟩:=h;exact⟨v,h1.sm hs (fun e=>e),h2.no hs,h3⟩
def pT(w:World)(B bb:Nat)(L:ah)(e:Ending)(w':World):Prop:=e=.returned (.tuple #[])∧sD w' B bb L∧Sm (fun x=>x=bb∨B≤x) w w'
theorem xJ (w:World) (B bb:Nat) (L:ah) (jB:ByteArray) (A:Option Addr) (n c:Nat) (hI:sD w B bb L) (hB:B≤w.heap.size) (hL:L.length+jB.size≤900000)
 (hJ:∀ W,Sm No w W→Calls Tryz.prog 73 #[.slice A n c] W fun e w'=>e=.returned (.string jB)∧Sm No W w'):
 Calls Tryz.prog 106 #[.slice A n c,.pointer (some ⟨bb,0,none⟩)] w (pT w B bb (L++(af jB++[13,10]))):=by
 obtain⟨v,hb,hO,hne⟩:=hI;obtain⟨Av,cv,rfl, -⟩:=hO.slice;have HJ:=aa hJ;have H:=aa (ab hb (ab hO hne));have d0:=hb.at 0 (v:=.slice Av L.length cv) rfl;have dl:=hb.lt;have dz:=hb.fz 0;have hl2:(L++af jB).length=L.length+jB.size:=by rw [List.length_append,ag]
 have HL:=aa hl2;clear hJ hb hO hne hl2;have h900:L.length+jB.size≤1000000:=by omega
 have h902:(L++af jB).length+(⟨#[13,10]⟩:ByteArray).size≤1000000:=by rw [HL.out];show _+2≤_;omega
 go_in;go_upto_region 0 with fail
 go_region_law
  (first
   |(have hB6:=Nat.le_trans hB (Nat.le_trans hs5.size hs6.size);refine jX (by rfl) _ _ (by rfl) B hB6 ⟨#[13,10]⟩ _ (L++af jB) (by rfl) hO6' (by rfl) h902 ?_;intro A7 c7 w7 hO7 hs7;have hb7:=hb6.sm hs7 n6;have n7:=am hO7 hb7 (by decide);have d7:=hb7.at 0 (v:=.slice Av L.length cv) rfl;have z7:=hb7.fz 0)
   |(have hB5:=Nat.le_trans hB hs5.size;refine jX (by rfl) _ _ (by rfl) B hB5 jB (.slice Av L.length cv) L (by rfl) hO5 (by rfl) h900 ?_;intro A6 c6 w6 hO6 hs6;have hO6':=hO6;have hb6:=(H.out.1.sm hs5 (fun e=>e)).sm hs6 H.out.2.2;have n6:=am hO6 hb6 (by decide))
   |(go_simp;refine(HJ.out _ ((Sm.refl _ w).drew)).mono ?_;rintro e w5 ⟨rfl,hs5'⟩;have hs5:=((Sm.refl No w).drew).tt hs5';have hO5:=H.out.2.1.no hs5;have hb5:=H.out.1.sm hs5 (fun e=>e);have d5:=hb5.at 0 (v:=.slice Av L.length cv) rfl)
   |fail)
 all_goals
  refine bodyPost_end (results_none rfl _ _ _) rfl ?_;refine⟨rfl,⟨_,hb7.set 0 _,?_,?_⟩,?_⟩
  ·refine ae (S:=fun x=>x=bb) ?_ ((Sm.refl _ w7).set1 0 _) (fun b hb e=> ?_)
   ·have h:=hO7;rw [List.append_assoc] at h;rw [List.length_append] at h;exact h
   ·subst e;exact n7 (by rw [List.length_append];exact hb)
  ·intro e;exact n7 (by rw [List.length_append];exact e)
  ·have t5:Sm (fun x=>x=bb∨B≤x) w w5:=hs5.mono (fun _ _ h=>h.elim);have t6:=t5.trans hs6 (fun b _ h=>Or.inr (World.ownsRow.lt hO5 b h).1);have t7:=t6.trans hs7 (fun b _ h=>Or.inr (World.ownsRow.lt hO6 b h).1);exact t7.setS (Or.inl rfl) 0 _
def fJ(bs:List ByteArray):ah:=(bs.map af).flatten
theorem B0(W:World)(g:Nat)(bs:List ByteArray)(hb:Bk W g 9 (bs.map Value.string).toArray)(hn:bs.length≤100)(hl:(fJ bs).length≤1000000):
 Calls Tryz.prog 73 #[.slice (some ⟨g,0,none⟩) bs.length bs.length] W fun e w'=>e=.returned (.string ⟨(fJ bs).toArray⟩)∧Sm No W w':=by
 have hJ:=Tryz.strings_Join g 0 bs.length bs ⟨#[]⟩ W (fun j x hj=>by
  rw [Nat.zero_add];refine hb.at j ?_;rw [List.getElem?_toArray,List.getElem?_map,hj];rfl) hb.lt (by omega) (Nat.le_refl _) (by
  rw [iT];exact Nat.le_trans hl (by decide))
 rw [iT] at hJ;have HJ:=aa hJ;clear hJ hb;go_in;go_wp2_with fail;refine HJ.out.mono ?_;rintro e w2 ⟨rfl,hb2⟩;have HS:=aa (Sm.of_below hb2 No);clear hb2;go_wp2_with fail;go_ret;exact⟨rfl,HS.out⟩
theorem Ag(W:World):
 Calls Tryz.prog 109 #[.slice none 0 0,.string ⟨#[]⟩] W fun e w'=>e=.returned (.string ⟨#[]⟩)∧Sm No W w':=by
 go_in;go_wp2_with fail;go_ret;exact⟨rfl,Sm.refl _ _⟩
theorem join_nil(W:World):
 Calls Tryz.prog 73 #[.slice none 0 0] W fun e w'=>e=.returned (.string ⟨#[]⟩)∧Sm No W w':=by
 go_in;go_wp2_with fail;refine(Ag _).mono ?_;rintro e w2 ⟨rfl,hs⟩;have HS:=aa hs;clear hs;go_wp2_with fail;go_ret;exact⟨rfl,HS.out⟩
theorem DP(l:ah):af ⟨l.toArray⟩=l:=by simp [af]
theorem Bx(l:ah):(⟨l.toArray⟩:ByteArray).size=l.length:=by simp [ByteArray.size]
theorem mG(w:World)(B bb:Nat)(L:ah)(g:Nat)(bs:List ByteArray)(hI:sD w B bb L)(hB:B≤w.heap.size)(hb:Bk w g 9 (bs.map Value.string).toArray)(hn:bs.length≤100)(hl:L.length+(fJ bs).length≤900000):
 Calls Tryz.prog 106 #[.slice (some ⟨g,0,none⟩) bs.length bs.length,.pointer (some ⟨bb,0,none⟩)] w (pT w B bb (L++(fJ bs++[13,10]))):=by
 have h:=xJ w B bb L ⟨(fJ bs).toArray⟩ (some ⟨g,0,none⟩) bs.length bs.length hI hB (by rw [Bx];exact hl) (fun W hs=>B0 W g bs (hb.sm hs (fun e=>e)) hn (by omega));rw [DP] at h;exact h
theorem C0(w:World)(B bb:Nat)(L:ah)(hI:sD w B bb L)(hB:B≤w.heap.size)(hl:L.length≤900000):
 Calls Tryz.prog 106 #[.slice none 0 0,.pointer (some ⟨bb,0,none⟩)] w (pT w B bb (L++[13,10])):=by
 exact xJ w B bb L ⟨#[]⟩ none 0 0 hI hB (by show L.length+0≤_;omega) (fun W _=>join_nil W)
end Go.Proofs.YtadcjgopaadfjaaGreatDoor
