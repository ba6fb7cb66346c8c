import Derived.Test.YtadcjgopaadfjaaGreatDoorQPF
import Derived.Test.YtadcjgopaadfjaaGreatDoorQPE
import Derived.Test.YtadcjgopaadfjaaGreatDoorQZ
set_option maxHeartbeats 16000000
set_option maxRecDepth 100000
namespace Go.Proofs.YtadcjgopaadfjaaGreatDoor
open Go.RowKit Go.Proofs
theorem wB(m:Int)(fs:List aM):(bC m fs).1=1∨(bC m fs).2.1=0:=by
 unfold bC;split
 ·exact Or.inr rfl
 ·split
  ·exact Or.inl rfl
  ·exact Or.inr rfl
theorem yX(m:Int)(fs:List aM):(gW m fs).1.kind=1∨(gW m fs).1.len=0:=by
 have h:=wB m fs;unfold gW;split
 ·exact Or.inr rfl
 ·split
  ·exact Or.inr rfl
  ·split
   ·exact Or.inr rfl
   ·split
    ·split
     ·exact Or.inr rfl
     ·exact h
    ·exact h
theorem ly{h:Hd}{s:ah}(hw:h.whole=false)(h2:(bA h s).1.whole=true):((bA h s).1.how.kind=1∨(bA h s).1.how.len=0)∧(bA h s).2=0:=by
 have no:∀ {a:Hd},a.whole=h.whole→a.whole=true→False:=fun e1 e2=>by rw [e1,hw] at e2;cases e2
 unfold bA at h2 ⊢;split at h2
 ·exact(no rfl h2).elim
 ·split at h2
  ·exact(no rfl h2).elim
  ·split at h2
   ·split at h2
    ·exact(no rfl h2).elim
    ·exact(no (show (bH (h.more s.length) (mR s)).1.whole=h.whole from jU) h2).elim
   ·split at h2
    ·rename_i g1 g2 g3 g4
     rw [if_neg g1,if_neg g2,if_neg g3,if_pos g4];exact⟨yX _ _,of_decide_eq_true h2⟩
    ·exact(no (show (kL (h.more s.length) s).1.whole=h.whole from mu) h2).elim
theorem fB.left{w:World}{g:Nat}{ph sta left fed left':Int}{ln hd vB ch:Value}(h:fB w g ph sta ln hd left vB ch fed)(e:left=left'):fB w g ph sta ln hd left' vB ch fed:=e ▸ h
theorem rL(w:World)(O:Nat→Prop)(g gh gf:Nat)(vF vL:Value)(h:Hd)(hb:fB w g 1 0 vL (cn gh) 0 bD (.pointer none) 0)(hh:cI w O gh gf vF h)(og:O g)(lt:∀ x,O x→x < w.heap.size)(hk:rH h.how)(hz:h.how.kind=1∨h.how.len=0):
 Calls Tryz.prog 180 #[.pointer (some ⟨g,0,none⟩)] w (dO w O g (dZ h)):=by
 have hgl:=Bk.lt hb;have hc:=Bk.all hb;have hz0:=Bk.fz hb;have HS:=aa (mw w 0 gh gf vF h hh.ph);unfold qC at HS;unfold cn bD at hc;obtain⟨k0,h0⟩:∃ m,h.how.kind=m:=⟨_,rfl⟩;obtain⟨k1,h1⟩:∃ m,h.how.len=m:=⟨_,rfl⟩;obtain⟨k2,h2⟩:∃ m,h.how.close=m:=⟨_,rfl⟩;obtain⟨k3,h3⟩:∃ m,h.how.expect=m:=⟨_,rfl⟩;have hk1:=hk.kind;have hk2:=hk.lo;have hk3:=hk.hi;obtain⟨R,hR⟩:=ai (dZ h);have HE:=aa (show (if k0=0∨(k0=1∧k1=0) then cP.whole h [] else if k0=1 then .len h [] else .chunk h [] (.size []))=R from by rw [←hR,←h0,←h1];rfl);rw [hR];rw [h0,h1,h2,h3] at HS;rw [h0,h1] at hz;rw [h0] at hk1;rw [h1] at hk2 hk3;have H1:=aa h1;have H:=aa (ab hb (ab hh (ab og lt)));clear hb hh og lt hk h0 h1 h2 h3 hR;go_in;go_wp2_with fail;refine HS.out.mono ?_;rintro e w2 ⟨rfl,hs2⟩;obtain⟨b3,hb3⟩:=ai w2.heap.size;have hn3:b3≠g:=by have:=hs2.size;omega
 obtain⟨w4,hw4⟩:∃ w4,(w2.setCell ⟨g,0,none⟩ (.int .i64 2)).alloc (.cells #[.int .i64 k0,.int .i64 k1,.bool k2,.bool k3] 185)=w4:=⟨_,rfl⟩;have hs4:Sm (fun x=>x=g) w w4:=by rw [←hw4];exact((hs2.any (fun x=>x=g)).set1 0 _).alloc _
 have hK2:fB w2 g 1 0 vL (cn gh) 0 bD (.pointer none) 0:=Bk.sm H.out.1 hs2 (fun e=>e);have hK4:fB w4 g 2 0 vL (cn gh) 0 bD (.pointer none) 0:=by rw [←hw4];exact((Bk.set hK2 0 _).alloc _).eq rfl
 have hB4:Bk w4 b3 185 #[.int .i64 k0,.int .i64 k1,.bool k2,.bool k3]:=by rw [←hw4];exact Bk.newAt _ _ _ (by rw [←hb3];simp)
 have f0:=hB4.at 0 (v:=.int .i64 k0) rfl;have f1:=hB4.at 1 (v:=.int .i64 k1) rfl;have fl:=hB4.lt;have hgl4:=Bk.lt hK4;have hc4:=Bk.all hK4;have hz4:=Bk.fz hK4;unfold cn bD at hc4;have hgl2:=Bk.lt hK2;have hz2:=Bk.fz hK2;have hc2:=Bk.all hK2;unfold cn bD at hc2;have H4:=aa (ab hs4 (ab hK4 (H.out.2.1.own H.out.1 rfl hs4)));have HW:=aa (ab hw4 hb3);have hFin:Hid (∀ (ph left:Int) (ch:Value) (wf:World) (q:cP),Sm (fun x=>x=g) w4 wf→(∀ P:Nat→Prop,(∀ x,be O w wf x→P x)→cI wf P gh gf vF h→EV wf P g q)→dO w O g q (.returned (.tuple #[])) wf):=aa (fun ph left ch wf q hsf hq=>by
  have hsw:Sm (fun x=>x=g) w wf:=H4.out.1.tt hsf;refine⟨rfl,⟨hq (be O w wf) (fun _ e=>e) ((H.out.2.1.own H.out.1 rfl hsw).imp (fun x e=>Or.inl e)),Or.inl H.out.2.2.1,be.lt H.out.2.2.2 hsw.size⟩,hsw.mono (fun x _ e=>e ▸ H.out.2.2.1)⟩)
 clear hs2 hs4 hK4 hB4 hw4 hb3 hK2;go_upto_region 3 with fail;rw [HW.out.2,HW.out.1];clear hc hz0 hgl2 hz2 hc2;by_cases e2:k0=2
 ·have HQ:=aa (HE.out.symm.trans (by rw [if_neg (by omega),if_neg (by omega)]));clear hz hk1;subst e2;have HC:=aa (yW w4);go_wp2_with fail;refine HC.out.mono ?_;rintro e w5 ⟨rfl,hs5,hP5⟩;have hK5:fB w5 g 2 0 vL (cn gh) 0 bD (.pointer none) 0:=Bk.sm H4.out.2.1 hs5 (fun e=>e);have hgl5:=Bk.lt hK5;have hz5:=Bk.fz hK5;have hc5:=Bk.all hK5;unfold cn bD at hc5;have H5:=aa (ab hs5 (ab hP5 hK5));clear hs5 hP5 hK5 hc4 hz4;go_wp2_with fail
  go_end0
  have hs6:Sm (fun x=>x=g) w5 (w5.setCell ⟨g,6,none⟩ (.pointer (some ⟨w4.heap.size,0,none⟩))):=(Sm.refl _ w5).set1 6 _;have hK6:fB (w5.setCell ⟨g,6,none⟩ (.pointer (some ⟨w4.heap.size,0,none⟩))) g 2 0 vL (cn gh) 0 bD (cn w4.heap.size) 0:=(Bk.set H5.out.2.2 6 (.pointer (some ⟨w4.heap.size,0,none⟩))).eq rfl;refine hFin.out 0 0 bD _ R ((H5.out.1.any _).tt hs6) (fun P hP hI=> ?_);rw [HQ.out];have hPQ:pu w5 (fun x=>x=w4.heap.size) w4.heap.size (.at [] (.size [])):=H5.out.2.1;have hl6:w.heap.size≤w4.heap.size:=H4.out.1.size;have hl5:w4.heap.size < w5.heap.size:=hPQ.lt.1 _ rfl;refine⟨gh,gf,vF,vL,w4.heap.size,fun x=>x=w4.heap.size,0,hK6,hI,hPQ.sm hs6 (fun x e e2=>by omega),fun y e=>hP y (Or.inr ⟨by omega,by simp;omega⟩),by omega,?_,?_,?_,zI⟩
  ·intro e;have:=H.out.2.2.2 gh H.out.2.1.og;omega
  ·intro e;have:=H.out.2.2.2 gf H.out.2.1.ogf;omega
  ·intro y e e2;have:=H.out.2.2.2 y (H.out.2.1.of y e);omega
 ·have n2:(k0==2)=false:=by simp [e2]
  by_cases e1:0 < k1
  ·have k01:k0=1:=hz.resolve_right (by omega);have HQ:=aa (HE.out.symm.trans (by rw [if_neg (by omega),if_pos k01]));clear e2 hk1 hz k01;go_wp2_with fail
   go_end0
   have hs6:Sm (fun x=>x=g) w4 (w4.setCell ⟨g,4,none⟩ (.int .i64 k1)):=(Sm.refl _ w4).set1 4 _;have hK6:fB (w4.setCell ⟨g,4,none⟩ (.int .i64 k1)) g 2 0 vL (cn gh) k1 bD (.pointer none) 0:=(Bk.set H4.out.2.1 4 (.int .i64 k1)).eq rfl;refine hFin.out 0 0 bD _ R hs6 (fun P hP hI=> ?_);rw [HQ.out];exact⟨gh,gf,vF,vL,bD,hK6.left (by rw [H1.out];simp),hI,aG.nil _ _,fun y e=>by cases e⟩
  ·have hk0:k1=0:=by omega
   have HQ:=aa (HE.out.symm.trans (if_pos (by omega)));clear e2 hk1 hz;go_wp2_with fail
   go_end0
   have hs6:Sm (fun x=>x=g) w4 (w4.setCell ⟨g,0,none⟩ (.int .i64 3)):=(Sm.refl _ w4).set1 0 _;have hK6:fB (w4.setCell ⟨g,0,none⟩ (.int .i64 3)) g 3 0 vL (cn gh) 0 bD (.pointer none) 0:=(Bk.set H4.out.2.1 0 (.int .i64 3)).eq rfl;refine hFin.out 0 0 bD _ R hs6 (fun P hP hI=> ?_);rw [HQ.out];exact⟨gh,gf,vF,vL,0,bD,.pointer none,0,hK6,hI,aH.nil _ _ _ _,fun y e=>by cases e⟩
theorem Fg(w:World)(O:Nat→Prop)(g:Nat)(h:Hd)(L:ah)(c:UInt8)(hI:bZ w O g (.head h L))(hl:L.length≤300)(hc:c=13)(hk:256 < cG L c):Calls Tryz.prog 153 #[.pointer (some ⟨g,0,none⟩),.int .u8 c.toNat] w (dO w O g (.bad h.long)):=by
 obtain⟨⟨gh,gf,vF,vL,hK,hh,hln,hm⟩,og,lt⟩:=hI;obtain⟨A,cp,hv, -⟩:=hln.1.slice;subst hv;have e1:((c.toNat:Int)==10)=false:=by rw [hc];rfl
 have e3:((c.toNat:Int) != 10)=true:=by rw [hc];rfl
 have e2:((c.toNat:Int)==13)=true:=by rw [hc];rfl
 have e4:((c.toNat:Int) != 13)=false:=by rw [hc];rfl
 have hn:((cG L c:Nat):Int)=L.length:=by unfold cG;rw [if_pos hc]
 have hne:¬c=10:=by rw [hc];decide
 clear hc;have hk2:(256:Int) < ((L.length:Int):Int):=by omega
 have i9:(L.length:Int)≤300:=by omega
 have hgl:=Bk.lt hK;have hcg:=Bk.all hK;have hzg:=Bk.fz hK;unfold cn bD at hcg;have HN:=aa (show (Value.slice A L.length cp).ownBlock≠some g from am hln.1 hK (by decide));have HNF:=aa (show ∀ x,(Value.slice A L.length cp).ownBlock=some x→x≠gh∧x≠gf∧vF.ownBlock≠some x from fun x e=>⟨fun e2=>am hln.1 hh.ph.bk (by decide) (by rw [e,e2]),fun e2=>am hln.1 hh.ph.fs.1 (by decide) (by rw [e,e2]),fun e2=>by
  obtain⟨c1,h1⟩:=az hh.ph.fs.2.1 e2;obtain⟨c2,h2⟩:=az hln.1 e;rw [h1] at h2;injection h2 with h2;injection h2 with _ h2;exact absurd h2 (by decide)⟩)
 have H:=aa (ab hK (ab hh (ab hln (ab hm (ab og lt)))));clear hn hk hK hh hln hm og lt hne;go_in;go_upto_region 5 with (at_builtin;refine eQ rfl _ _ rfl c (.slice A L.length cp) L rfl H.out.2.2.1.1 rfl (by omega) ?_;intro v' w5 hO5 hs5 hv5;have hb5:=Bk.sm H.out.1 hs5 HN.out;have hc5:=Bk.all hb5;have hz5:=Bk.fz hb5;have hl5:=Bk.lt hb5;unfold cn bD at hc5;obtain⟨A5,cp5,hv6, -⟩:=hO5.slice;have hv7:v'=.slice A5 (L.length+1) cp5:=hv6.trans (by simp);clear hv6;subst hv7;have H5:=aa (ab hb5 (ab hO5 (ab hs5 hv5)));clear hO5 hs5 hv5 hb5);obtain⟨w6,hw6⟩:=ai (w5.setCell ⟨g,2,none⟩ (.slice A5 (L.length+1) cp5));have hs56:Sm (fun x=>x=g) w5 w6:=by rw [←hw6];exact(Sm.refl _ w5).set1 2 _
 have hK6:fB w6 g 1 0 (.slice A5 (L.length+1) cp5) (cn gh) 0 bD (.pointer none) 0:=by rw [←hw6];exact(Bk.set H5.out.1 2 _).eq rfl
 obtain⟨hb5,hO5,hs5,hv5⟩:=H5.out;have hO6:aG w6 0 (.slice A5 (L.length+1) cp5) (L++[c]):=ae hO5 hs56 (fun x e e2=>am hO5 hb5 (by decide) (by rw [e,e2]));have hh5:cI w5 O gh gf vF h:=H.out.2.1.sm hs5 (fun e=>(HNF.out _ e).1 rfl) (fun e=>(HNF.out _ e).2.1 rfl) (fun x e e2=>(HNF.out _ e2).2.2 e);have hh6:cI w6 O gh gf vF h:=hh5.own hb5 rfl hs56;have hsO:Sm O w w6:=(hs5.mono (fun x _ e=>H.out.2.2.1.2 x e)).trans hs56 (fun x _ e=>e ▸ H.out.2.2.2.2.1);have how:∀ y,(Value.slice A5 (L.length+1) cp5).ownBlock=some y→be O w w6 y:=fun y e=>(hv5 y e).elim (fun e2=>Or.inl (H.out.2.2.1.2 y e2)) (fun e2=>Or.inr ⟨e2,(World.ownsRow.lt hO6 y e).2⟩);have H6:=aa (ab hK6 (ab hO6 (ab hh6 (ab hsO how))));have HW:=aa hw6;have hgl6:=Bk.lt hK6;rw [hw6];clear hw6 hs56 hK6 hb5 hO5 hs5 hv5 hO6 hh5 hh6 hsO how hc5 hz5 hcg hzg;have HT:=aa (kd w6 g gh gf vF h H.out.2.2.2.1 H6.out.1 H6.out.2.2.1.ph);go_wp2_with fail;refine HT.out.mono ?_;rintro e w7 ⟨rfl,hs7⟩;have H7:=aa hs7;have HR:=aa (de w7 g h.long (by unfold Hd.long;split<;>decide) (Bk.sm H6.out.1 hs7 (fun e=>e)));clear hs7;go_wp2_with fail;refine HR.out.mono ?_;rintro e w8 ⟨rfl,hK8,hs8⟩;have H8:=aa (ab hK8 hs8);clear hK8 hs8;go_wp2_with fail
 go_end0
 exact bZ.badOf H.out.2.2.2.2.1 H.out.2.2.2.2.2 ((H6.out.2.2.2.1.trans H7.out (fun _ _ e=>e.elim)).tt (H8.out.2.mono (fun x _ e=>e ▸ H.out.2.2.2.2.1):Sm O w7 _)) H8.out.1
theorem FE(w:World)(O:Nat→Prop)(g:Nat)(h:Hd)(L:ah)(c:UInt8)(hI:bZ w O g (.head h L))(hl:L.length≤300)(hc:c=13)(hk:¬256 < cG L c):Calls Tryz.prog 153 #[.pointer (some ⟨g,0,none⟩),.int .u8 c.toNat] w (dO w O g (.head h (L++[c]))):=by
 obtain⟨⟨gh,gf,vF,vL,hK,hh,hln,hm⟩,og,lt⟩:=hI;obtain⟨A,cp,hv, -⟩:=hln.1.slice;subst hv;have e1:((c.toNat:Int)==10)=false:=by rw [hc];rfl
 have e3:((c.toNat:Int) != 10)=true:=by rw [hc];rfl
 have e2:((c.toNat:Int)==13)=true:=by rw [hc];rfl
 have e4:((c.toNat:Int) != 13)=false:=by rw [hc];rfl
 have hn:((cG L c:Nat):Int)=L.length:=by unfold cG;rw [if_pos hc]
 have hne:¬c=10:=by rw [hc];decide
 clear hc;have hk2:¬(256:Int) < ((L.length:Int):Int):=by omega
 have i9:(L.length:Int)≤300:=by omega
 have hgl:=Bk.lt hK;have hcg:=Bk.all hK;have hzg:=Bk.fz hK;unfold cn bD at hcg;have HN:=aa (show (Value.slice A L.length cp).ownBlock≠some g from am hln.1 hK (by decide));have HNF:=aa (show ∀ x,(Value.slice A L.length cp).ownBlock=some x→x≠gh∧x≠gf∧vF.ownBlock≠some x from fun x e=>⟨fun e2=>am hln.1 hh.ph.bk (by decide) (by rw [e,e2]),fun e2=>am hln.1 hh.ph.fs.1 (by decide) (by rw [e,e2]),fun e2=>by
  obtain⟨c1,h1⟩:=az hh.ph.fs.2.1 e2;obtain⟨c2,h2⟩:=az hln.1 e;rw [h1] at h2;injection h2 with h2;injection h2 with _ h2;exact absurd h2 (by decide)⟩)
 have H:=aa (ab hK (ab hh (ab hln (ab hm (ab og lt)))));clear hn hk hK hh hln hm og lt hne;go_in;go_upto_region 5 with (at_builtin;refine eQ rfl _ _ rfl c (.slice A L.length cp) L rfl H.out.2.2.1.1 rfl (by omega) ?_;intro v' w5 hO5 hs5 hv5;have hb5:=Bk.sm H.out.1 hs5 HN.out;have hc5:=Bk.all hb5;have hz5:=Bk.fz hb5;have hl5:=Bk.lt hb5;unfold cn bD at hc5;obtain⟨A5,cp5,hv6, -⟩:=hO5.slice;have hv7:v'=.slice A5 (L.length+1) cp5:=hv6.trans (by simp);clear hv6;subst hv7;have H5:=aa (ab hb5 (ab hO5 (ab hs5 hv5)));clear hO5 hs5 hv5 hb5);obtain⟨w6,hw6⟩:=ai (w5.setCell ⟨g,2,none⟩ (.slice A5 (L.length+1) cp5));have hs56:Sm (fun x=>x=g) w5 w6:=by rw [←hw6];exact(Sm.refl _ w5).set1 2 _
 have hK6:fB w6 g 1 0 (.slice A5 (L.length+1) cp5) (cn gh) 0 bD (.pointer none) 0:=by rw [←hw6];exact(Bk.set H5.out.1 2 _).eq rfl
 obtain⟨hb5,hO5,hs5,hv5⟩:=H5.out;have hO6:aG w6 0 (.slice A5 (L.length+1) cp5) (L++[c]):=ae hO5 hs56 (fun x e e2=>am hO5 hb5 (by decide) (by rw [e,e2]));have hh5:cI w5 O gh gf vF h:=H.out.2.1.sm hs5 (fun e=>(HNF.out _ e).1 rfl) (fun e=>(HNF.out _ e).2.1 rfl) (fun x e e2=>(HNF.out _ e2).2.2 e);have hh6:cI w6 O gh gf vF h:=hh5.own hb5 rfl hs56;have hsO:Sm O w w6:=(hs5.mono (fun x _ e=>H.out.2.2.1.2 x e)).trans hs56 (fun x _ e=>e ▸ H.out.2.2.2.2.1);have how:∀ y,(Value.slice A5 (L.length+1) cp5).ownBlock=some y→be O w w6 y:=fun y e=>(hv5 y e).elim (fun e2=>Or.inl (H.out.2.2.1.2 y e2)) (fun e2=>Or.inr ⟨e2,(World.ownsRow.lt hO6 y e).2⟩);have H6:=aa (ab hK6 (ab hO6 (ab hh6 (ab hsO how))));have HW:=aa hw6;have hgl6:=Bk.lt hK6;rw [hw6];clear hw6 hs56 hK6 hb5 hO5 hs5 hv5 hO6 hh5 hh6 hsO how hc5 hz5 hcg hzg;go_wp2_with fail
 go_end0
 exact⟨rfl,⟨⟨gh,gf,vF,_,H6.out.1,H6.out.2.2.1.imp (fun x e=>Or.inl e),⟨H6.out.2.1,H6.out.2.2.2.2⟩,H.out.2.2.2.1⟩,Or.inl H.out.2.2.2.2.1,be.lt H.out.2.2.2.2.2 H6.out.2.2.2.1.size⟩,H6.out.2.2.2.1⟩
theorem Fr(w:World)(O:Nat→Prop)(g:Nat)(h:Hd)(L:ah)(c:UInt8)(hI:bZ w O g (.head h L))(hl:L.length≤300)(h10:c≠10)(h13:c≠13)(hk:256 < cG L c):Calls Tryz.prog 153 #[.pointer (some ⟨g,0,none⟩),.int .u8 c.toNat] w (dO w O g (.bad h.long)):=by
 obtain⟨⟨gh,gf,vF,vL,hK,hh,hln,hm⟩,og,lt⟩:=hI;obtain⟨A,cp,hv, -⟩:=hln.1.slice;subst hv;have e1:((c.toNat:Int)==10)=false:=dq (n:=10) (by decide) h10;have e3:((c.toNat:Int) != 10)=true:=by simpa using e1
 have e2:((c.toNat:Int)==13)=false:=dq (n:=13) (by decide) h13;have e4:((c.toNat:Int) != 13)=true:=by simpa using e2
 have hn:((cG L c:Nat):Int)=(L.length:Int)+1:=by unfold cG;rw [if_neg h13];rfl
 have hne:=h10;clear h10 h13;have hk2:(256:Int) < ((L.length:Int)+1:Int):=by omega
 have i9:(L.length:Int)≤300:=by omega
 have hgl:=Bk.lt hK;have hcg:=Bk.all hK;have hzg:=Bk.fz hK;unfold cn bD at hcg;have HN:=aa (show (Value.slice A L.length cp).ownBlock≠some g from am hln.1 hK (by decide));have HNF:=aa (show ∀ x,(Value.slice A L.length cp).ownBlock=some x→x≠gh∧x≠gf∧vF.ownBlock≠some x from fun x e=>⟨fun e2=>am hln.1 hh.ph.bk (by decide) (by rw [e,e2]),fun e2=>am hln.1 hh.ph.fs.1 (by decide) (by rw [e,e2]),fun e2=>by
  obtain⟨c1,h1⟩:=az hh.ph.fs.2.1 e2;obtain⟨c2,h2⟩:=az hln.1 e;rw [h1] at h2;injection h2 with h2;injection h2 with _ h2;exact absurd h2 (by decide)⟩)
 have H:=aa (ab hK (ab hh (ab hln (ab hm (ab og lt)))));clear hn hk hK hh hln hm og lt hne;go_in;go_upto_region 5 with (at_builtin;refine eQ rfl _ _ rfl c (.slice A L.length cp) L rfl H.out.2.2.1.1 rfl (by omega) ?_;intro v' w5 hO5 hs5 hv5;have hb5:=Bk.sm H.out.1 hs5 HN.out;have hc5:=Bk.all hb5;have hz5:=Bk.fz hb5;have hl5:=Bk.lt hb5;unfold cn bD at hc5;obtain⟨A5,cp5,hv6, -⟩:=hO5.slice;have hv7:v'=.slice A5 (L.length+1) cp5:=hv6.trans (by simp);clear hv6;subst hv7;have H5:=aa (ab hb5 (ab hO5 (ab hs5 hv5)));clear hO5 hs5 hv5 hb5);obtain⟨w6,hw6⟩:=ai (w5.setCell ⟨g,2,none⟩ (.slice A5 (L.length+1) cp5));have hs56:Sm (fun x=>x=g) w5 w6:=by rw [←hw6];exact(Sm.refl _ w5).set1 2 _
 have hK6:fB w6 g 1 0 (.slice A5 (L.length+1) cp5) (cn gh) 0 bD (.pointer none) 0:=by rw [←hw6];exact(Bk.set H5.out.1 2 _).eq rfl
 obtain⟨hb5,hO5,hs5,hv5⟩:=H5.out;have hO6:aG w6 0 (.slice A5 (L.length+1) cp5) (L++[c]):=ae hO5 hs56 (fun x e e2=>am hO5 hb5 (by decide) (by rw [e,e2]));have hh5:cI w5 O gh gf vF h:=H.out.2.1.sm hs5 (fun e=>(HNF.out _ e).1 rfl) (fun e=>(HNF.out _ e).2.1 rfl) (fun x e e2=>(HNF.out _ e2).2.2 e);have hh6:cI w6 O gh gf vF h:=hh5.own hb5 rfl hs56;have hsO:Sm O w w6:=(hs5.mono (fun x _ e=>H.out.2.2.1.2 x e)).trans hs56 (fun x _ e=>e ▸ H.out.2.2.2.2.1);have how:∀ y,(Value.slice A5 (L.length+1) cp5).ownBlock=some y→be O w w6 y:=fun y e=>(hv5 y e).elim (fun e2=>Or.inl (H.out.2.2.1.2 y e2)) (fun e2=>Or.inr ⟨e2,(World.ownsRow.lt hO6 y e).2⟩);have H6:=aa (ab hK6 (ab hO6 (ab hh6 (ab hsO how))));have HW:=aa hw6;have hgl6:=Bk.lt hK6;rw [hw6];clear hw6 hs56 hK6 hb5 hO5 hs5 hv5 hO6 hh5 hh6 hsO how hc5 hz5 hcg hzg;have HT:=aa (kd w6 g gh gf vF h H.out.2.2.2.1 H6.out.1 H6.out.2.2.1.ph);go_wp2_with fail;refine HT.out.mono ?_;rintro e w7 ⟨rfl,hs7⟩;have H7:=aa hs7;have HR:=aa (de w7 g h.long (by unfold Hd.long;split<;>decide) (Bk.sm H6.out.1 hs7 (fun e=>e)));clear hs7;go_wp2_with fail;refine HR.out.mono ?_;rintro e w8 ⟨rfl,hK8,hs8⟩;have H8:=aa (ab hK8 hs8);clear hK8 hs8;go_wp2_with fail
 go_end0
 exact bZ.badOf H.out.2.2.2.2.1 H.out.2.2.2.2.2 ((H6.out.2.2.2.1.trans H7.out (fun _ _ e=>e.elim)).tt (H8.out.2.mono (fun x _ e=>e ▸ H.out.2.2.2.2.1):Sm O w7 _)) H8.out.1
theorem FK(w:World)(O:Nat→Prop)(g:Nat)(h:Hd)(L:ah)(c:UInt8)(hI:bZ w O g (.head h L))(hl:L.length≤300)(h10:c≠10)(h13:c≠13)(hk:¬256 < cG L c):Calls Tryz.prog 153 #[.pointer (some ⟨g,0,none⟩),.int .u8 c.toNat] w (dO w O g (.head h (L++[c]))):=by
 obtain⟨⟨gh,gf,vF,vL,hK,hh,hln,hm⟩,og,lt⟩:=hI;obtain⟨A,cp,hv, -⟩:=hln.1.slice;subst hv;have e1:((c.toNat:Int)==10)=false:=dq (n:=10) (by decide) h10;have e3:((c.toNat:Int) != 10)=true:=by simpa using e1
 have e2:((c.toNat:Int)==13)=false:=dq (n:=13) (by decide) h13;have e4:((c.toNat:Int) != 13)=true:=by simpa using e2
 have hn:((cG L c:Nat):Int)=(L.length:Int)+1:=by unfold cG;rw [if_neg h13];rfl
 have hne:=h10;clear h10 h13;have hk2:¬(256:Int) < ((L.length:Int)+1:Int):=by omega
 have i9:(L.length:Int)≤300:=by omega
 have hgl:=Bk.lt hK;have hcg:=Bk.all hK;have hzg:=Bk.fz hK;unfold cn bD at hcg;have HN:=aa (show (Value.slice A L.length cp).ownBlock≠some g from am hln.1 hK (by decide));have HNF:=aa (show ∀ x,(Value.slice A L.length cp).ownBlock=some x→x≠gh∧x≠gf∧vF.ownBlock≠some x from fun x e=>⟨fun e2=>am hln.1 hh.ph.bk (by decide) (by rw [e,e2]),fun e2=>am hln.1 hh.ph.fs.1 (by decide) (by rw [e,e2]),fun e2=>by
  obtain⟨c1,h1⟩:=az hh.ph.fs.2.1 e2;obtain⟨c2,h2⟩:=az hln.1 e;rw [h1] at h2;injection h2 with h2;injection h2 with _ h2;exact absurd h2 (by decide)⟩)
 have H:=aa (ab hK (ab hh (ab hln (ab hm (ab og lt)))));clear hn hk hK hh hln hm og lt hne;go_in;go_upto_region 5 with (at_builtin;refine eQ rfl _ _ rfl c (.slice A L.length cp) L rfl H.out.2.2.1.1 rfl (by omega) ?_;intro v' w5 hO5 hs5 hv5;have hb5:=Bk.sm H.out.1 hs5 HN.out;have hc5:=Bk.all hb5;have hz5:=Bk.fz hb5;have hl5:=Bk.lt hb5;unfold cn bD at hc5;obtain⟨A5,cp5,hv6, -⟩:=hO5.slice;have hv7:v'=.slice A5 (L.length+1) cp5:=hv6.trans (by simp);clear hv6;subst hv7;have H5:=aa (ab hb5 (ab hO5 (ab hs5 hv5)));clear hO5 hs5 hv5 hb5);obtain⟨w6,hw6⟩:=ai (w5.setCell ⟨g,2,none⟩ (.slice A5 (L.length+1) cp5));have hs56:Sm (fun x=>x=g) w5 w6:=by rw [←hw6];exact(Sm.refl _ w5).set1 2 _
 have hK6:fB w6 g 1 0 (.slice A5 (L.length+1) cp5) (cn gh) 0 bD (.pointer none) 0:=by rw [←hw6];exact(Bk.set H5.out.1 2 _).eq rfl
 obtain⟨hb5,hO5,hs5,hv5⟩:=H5.out;have hO6:aG w6 0 (.slice A5 (L.length+1) cp5) (L++[c]):=ae hO5 hs56 (fun x e e2=>am hO5 hb5 (by decide) (by rw [e,e2]));have hh5:cI w5 O gh gf vF h:=H.out.2.1.sm hs5 (fun e=>(HNF.out _ e).1 rfl) (fun e=>(HNF.out _ e).2.1 rfl) (fun x e e2=>(HNF.out _ e2).2.2 e);have hh6:cI w6 O gh gf vF h:=hh5.own hb5 rfl hs56;have hsO:Sm O w w6:=(hs5.mono (fun x _ e=>H.out.2.2.1.2 x e)).trans hs56 (fun x _ e=>e ▸ H.out.2.2.2.2.1);have how:∀ y,(Value.slice A5 (L.length+1) cp5).ownBlock=some y→be O w w6 y:=fun y e=>(hv5 y e).elim (fun e2=>Or.inl (H.out.2.2.1.2 y e2)) (fun e2=>Or.inr ⟨e2,(World.ownsRow.lt hO6 y e).2⟩);have H6:=aa (ab hK6 (ab hO6 (ab hh6 (ab hsO how))));have HW:=aa hw6;have hgl6:=Bk.lt hK6;rw [hw6];clear hw6 hs56 hK6 hb5 hO5 hs5 hv5 hO6 hh5 hh6 hsO how hc5 hz5 hcg hzg;go_wp2_with fail
 go_end0
 exact⟨rfl,⟨⟨gh,gf,vF,_,H6.out.1,H6.out.2.2.1.imp (fun x e=>Or.inl e),⟨H6.out.2.1,H6.out.2.2.2.2⟩,H.out.2.2.2.1⟩,Or.inl H.out.2.2.2.2.1,be.lt H.out.2.2.2.2.2 H6.out.2.2.2.1.size⟩,H6.out.2.2.2.1⟩
theorem FZ(w:World)(O:Nat→Prop)(g:Nat)(h:Hd)(c:UInt8)(hI:bZ w O g (.head h []))(hc:c=10):Calls Tryz.prog 153 #[.pointer (some ⟨g,0,none⟩),.int .u8 c.toNat] w (dO w O g (.bad 400)):=by
 obtain⟨⟨gh,gf,vF,vL,hK,hh,hln,hm⟩,og,lt⟩:=hI;obtain⟨A,cp,hv, -⟩:=hln.1.slice;subst hv hc;have hgl:=Bk.lt hK;have hcg:=Bk.all hK;have hzg:=Bk.fz hK;unfold cn bD at hcg;have HR:=aa (de w g 400 (by decide) hK);have H:=aa (ab og lt);clear hK hh hln hm og lt;go_in;go_wp2_with fail;refine HR.out.mono ?_;rintro e w8 ⟨rfl,hK8,hs8⟩;have H8:=aa (ab hK8 hs8);clear hK8 hs8 hcg hzg;go_wp2_with fail
 go_end0
 exact bZ.badOf H.out.1 H.out.2 (H8.out.2.mono (fun x _ e=>e ▸ H.out.1)) H8.out.1
theorem Gp(w:World)(O:Nat→Prop)(g:Nat)(h:Hd)(L:ah)(c:UInt8)(hI:bZ w O g (.head h L))(hl:L.length≤300)(h0:0 < L.length)(h13:∀ h:L.length-1 < L.length,L[L.length-1]≠13)(hc:c=10):Calls Tryz.prog 153 #[.pointer (some ⟨g,0,none⟩),.int .u8 c.toNat] w (dO w O g (.bad 400)):=by
 obtain⟨⟨gh,gf,vF,vL,hK,hh,hln,hm⟩,og,lt⟩:=hI;obtain⟨A,cp,hv,hR,hcp, -⟩:=hln.1.slice;subst hv;have hlt:L.length-1 < L.length:=by omega
 obtain⟨bb,off,rfl,hbb,r0⟩:=hR.at (j:=L.length-1) (u:=.int .u8 (L[L.length-1]).toNat) (by simp [hlt,aU]);obtain⟨y,hy⟩:=ai (L[L.length-1]);rw [hy] at r0;have k0:(0:Int) < (L.length:Int):=by omega
 have k2:(0:Int)≤(L.length:Int)-1:=by omega
 have k3:((L.length:Int)-1).toNat=L.length-1:=by omega
 have k4:((L.length:Int)==0)=false:=by rw [beq_eq_false_iff_ne];omega
 have k5:(L.length:Int)≤(cp:Int):=by omega
 have k6:(L.length:Int)≤1000:=by omega
 have e1:((y.toNat:Int)==13)=false:=dq (n:=13) (by decide) (by rw [←hy];exact h13 hlt);have e2:((y.toNat:Int) != 13)=true:=by simpa using e1
 clear hy h13 hR;subst hc;have hgl:=Bk.lt hK;have hcg:=Bk.all hK;have hzg:=Bk.fz hK;unfold cn bD at hcg;have HR:=aa (de w g 400 (by decide) hK);have H:=aa (ab og lt);clear hK hh hln hm og lt;go_in;go_wp2_with fail;refine HR.out.mono ?_;rintro e w8 ⟨rfl,hK8,hs8⟩;have H8:=aa (ab hK8 hs8);clear hK8 hs8 hcg hzg;go_wp2_with fail
 go_end0
 exact bZ.badOf H.out.1 H.out.2 (H8.out.2.mono (fun x _ e=>e ▸ H.out.1)) H8.out.1
theorem Bs{h:Hd}{s:ah}(hw:h.whole=false)(hs:h.status=0)(hn:(bw h s).status≠0):(bw h s).whole=false:=by
 rw [kf hw hs] at hn ⊢
 cases hc:(bA h s).1.whole with
 |false=>rfl
 |true=>exact absurd (ly hw hc).2 hn
theorem G0.out{w w':World}{O:Nat→Prop}(h:G0 w)(hs:Sm O w w')(h0:¬O 0):G0 w':=by
 obtain⟨m,hm⟩:=h;exact⟨m,hs.keep (World.block_lt_of_cell? w _ hm) h0 hm⟩
theorem F2(w:World)(O:Nat→Prop)(g:Nat)(h:Hd)(L:ah)(c:UInt8)(hI:bZ w O g (.head h L))(hl:L.length≤257)(hg:G0 w)(hO0:¬O 0)(ho:wm h L)(hgo:il h)(h13:L.getLast?=some 13)(hc:c=10):Calls Tryz.prog 153 #[.pointer (some ⟨g,0,none⟩),.int .u8 c.toNat] w (dO w O g (eP h L c)):=by
 obtain⟨⟨gh,gf,vF,vL,hK,hh,hln,hm⟩,og,lt⟩:=hI;have h0:0 < L.length:=by
  cases L with
  |nil=>cases h13
  |cons=>simp
 have hE:eP h L c=if (bw h L.dropLast).status≠0 then .bad (bw h L.dropLast).status else if (bw h L.dropLast).whole=true then dZ (bw h L.dropLast) else .head (bw h L.dropLast) []:=Cg hc h13;rcases hln.1.by with ⟨_,hn⟩|⟨gL,cap,hv,_,hBy⟩
 ·subst hn;cases h13
 subst hv;have hlt:L.length-1 < L.length:=by omega
 have hcap:=ma hln.1;have hy:L[L.length-1]=13:=by
  rw [List.getLast?_eq_getElem?,List.getElem?_eq_getElem hlt] at h13;exact Option.some.inj h13
 have r0:=(hBy.2 (L.length-1) 13 (by rw [List.getElem?_eq_getElem hlt,hy])).1;have hByD:By w gL L.dropLast:=by rw [List.dropLast_eq_take];exact hBy.pre _
 have k0:(0:Int) < (L.length:Int):=by omega
 have k2:(0:Int)≤(L.length:Int)-1:=by omega
 have k3:((L.length:Int)-1).toNat=L.length-1:=by omega
 have k4:((L.length:Int)==0)=false:=by rw [beq_eq_false_iff_ne];omega
 have k5:(L.length:Int)≤(cap:Int):=by omega
 have k6:(L.length:Int)≤1000:=by omega
 have k7:(L.length:Int)-1≤(cap:Int):=by omega
 obtain⟨sB,hsB⟩:=ai ((⟨L.dropLast.toArray⟩:ByteArray));have hst:af sB=L.dropLast:=by rw [←hsB];rfl
 have hsz:sB.size≤256:=by rw [←ag,hst,List.length_dropLast];omega
 obtain⟨h',hh'⟩:=ai (bw h (af sB));rw [←hst,hh'] at hE;have hm':BA h':=by rw [←hh'];exact DL hm
 have hst':h'.status≠0→h'.whole=false:=by rw [←hh'];exact Bs ho.whole ho.status
 have hwh':h'.whole=true→h'.how.kind=1∨h'.how.len=0:=by
  rw [←hh',kf ho.whole ho.status];exact fun e=>(ly ho.whole e).1
 have hhow:h'.status=0→h'.whole=true→rH h'.how:=by
  rw [←hh',kf ho.whole ho.status];exact fun e1 e2=>(sV hgo ho.whole e1).2 e2
 have HP:=aa (ab hm' (ab hst' (ab hwh' hhow)));have hgl:=Bk.lt hK;have hcg:=Bk.all hK;have hzg:=Bk.fz hK;unfold cn bD at hcg;obtain⟨w1,hw1⟩:=ai (w.setCell ⟨g,2,none⟩ (.slice (some ⟨gL,0,none⟩) 0 cap));have hs1:Sm (fun x=>x=g) w w1:=by rw [←hw1];exact(Sm.refl _ w).set1 2 _
 have hK1:fB w1 g 1 0 (.slice (some ⟨gL,0,none⟩) 0 cap) (cn gh) 0 bD (.pointer none) 0:=by rw [←hw1];exact(Bk.set hK 2 _).eq rfl
 have hh1:cI w1 O gh gf vF h:=hh.own hK rfl hs1;have hln1:jA w1 O (.slice (some ⟨gL,0,none⟩) 0 cap) []:=jA.own (w:=w) (g:=g) ⟨aG.cut0 hln.1,hln.2⟩ hK rfl hs1;have hsO1:Sm O w w1:=hs1.mono (fun x _ e=>e ▸ og);have HLine:=aa (Ae w1 0 gh gf vF h sB (hg.out hsO1 hO0) hh1.ph ho.ok ho.whole ho.status (fun e=>(hm.new e).1) (Nat.zero_le _));rw [hh'] at HLine;have H:=aa (ab hK1 (ab hh1 (ab hln1 (ab hsO1 (ab og lt)))));have HB:=aa (ab hByD (ab hw1 hsB));obtain⟨R,hR⟩:=ai (eP h L c);rw [hR] at hE ⊢;have HE:=aa hE;have hgl1:=Bk.lt hK1;have hc1:=Bk.all hK1;have hz1:=Bk.fz hK1;unfold cn bD at hc1;clear hR hy h13 hBy hByD hsB hst hE hm' hst' hwh' hhow hw1 hs1 hK1 hh1 hln1 hsO1 hK hh hln hm og lt hg ho hgo hO0;subst hc;go_in;go_upto_region 10 with (refine aV rfl 34 9 5 _ rfl gL (L.length-1) cap L.dropLast rfl Tryz.underlying34 Tryz.underlying5 Tryz.underlying9 HB.out.1 (by simp) ?_);rw [HB.out.2.2];go_upto_region 11 with fail;rw [HB.out.2.1];clear hcg hzg r0;go_wp2_with fail;refine HLine.out.mono ?_;rintro e w2 ⟨v2,rfl,hI2,hs2,hf2⟩;have hs2O:Sm O w1 w2:=hs2.mono (fun x _ e=>by
  rcases e with e|e|e
  ·exact e ▸ H.out.2.1.og
  ·exact e ▸ H.out.2.1.ogf
  ·exact H.out.2.1.of x e)
 have hK2:fB w2 g 1 0 (.slice (some ⟨gL,0,none⟩) 0 cap) (cn gh) 0 bD (.pointer none) 0:=Bk.sm H.out.1 hs2 (fun e=>by
  rcases e with e|e|e
  ·exact tO H.out.2.1.ph.bk H.out.1 (by decide) e.symm
  ·exact tO H.out.2.1.ph.fs.1 H.out.1 (by decide) e.symm
  ·exact am H.out.2.1.ph.fs.2.1 H.out.1 (by decide) e)
 have hln2:aG w2 0 (.slice (some ⟨gL,0,none⟩) 0 cap) []:=ae H.out.2.2.1.1 hs2 (fun x e e2=>by
  rcases e2 with e2|e2|e2
  ·exact am H.out.2.2.1.1 H.out.2.1.ph.bk (by decide) (by rw [e,e2])
  ·exact am H.out.2.2.1.1 H.out.2.1.ph.fs.1 (by decide) (by rw [e,e2])
  ·obtain⟨c1,h1⟩:=az H.out.2.1.ph.fs.2.1 e2;obtain⟨c2,h2⟩:=az H.out.2.2.1.1 e;rw [h1] at h2;injection h2 with h2;injection h2 with _ h2;exact absurd h2 (by decide))
 have hsw2:Sm O w w2:=H.out.2.2.2.1.tt hs2O;have hPh:h'.status=0→cI w2 (be O w w2) gh gf v2 h':=fun e=>by
  have hI3:=hI2 e;refine⟨hI3,Or.inl H.out.2.1.og,Or.inl H.out.2.1.ogf,fun x e2=> ?_⟩;rcases hf2 with hf|⟨b,hf,hb⟩
  ·rw [hf] at e2;exact Or.inl (H.out.2.1.of x e2)
  ·rw [hf] at e2;injection e2 with e2;subst e2;exact Or.inr ⟨Nat.le_trans H.out.2.2.2.1.size hb,(World.ownsRow.lt hI3.fs.2.1 b hf).2⟩
 have H2:=aa (ab hK2 (ab hln2 (ab hsw2 hPh)));have hgl2:=Bk.lt hK2;obtain⟨sta,hsta⟩:∃ s,h'.status=s:=⟨_,rfl⟩;obtain⟨wh,hwh⟩:∃ s,h'.whole=s:=⟨_,rfl⟩;rw [hsta,hwh];have HV:=aa (ab hsta hwh);clear hI2 hs2 hf2 hs2O hK2 hln2 hsw2 hPh hc1 hz1;by_cases hs0:sta=0
 ·subst hs0;have HR0:=aa (jx w2 g);have HE2:=aa (HE.out.trans (if_neg (fun h=>h HV.out.1)))
  cases wh with
  |true=>
   have HFr:=aa (rL w2 (be O w w2) g gh gf v2 _ h' H2.out.1 (H2.out.2.2.2 HV.out.1) (Or.inl H.out.2.2.2.2.1) (be.lt H.out.2.2.2.2.2 H2.out.2.2.1.size) (HP.out.2.2.2 HV.out.1 HV.out.2) (HP.out.2.2.1 HV.out.2));have HQ:=aa (HE2.out.trans (if_pos HV.out.2));clear hsta hwh;go_wp2_with fail;refine HR0.out.mono ?_;rintro e w3 ⟨rfl,rfl⟩;go_wp2_with fail;refine HFr.out.mono ?_;intro e w4 h4;have H4:=aa h4;obtain⟨rfl, -, -⟩:=h4;go_wp2_with fail
   go_end0
   rw [HQ.out];exact H4.out.up H.out.2.2.2.2.2 H.out.2.2.2.2.1 H2.out.2.2.1
  |false=>
   have HQ:=aa (HE2.out.trans (if_neg (by rw [HV.out.2];decide)));clear hsta hwh;go_wp2_with fail;refine HR0.out.mono ?_;rintro e w3 ⟨rfl,rfl⟩;go_wp2_with fail
   go_end0
   rw [HQ.out];exact⟨rfl,⟨⟨gh,gf,v2,_,H2.out.1,H2.out.2.2.2 HV.out.1,⟨H2.out.2.1,fun y e=>Or.inl (H.out.2.2.1.2 y e)⟩,HP.out.1⟩,Or.inl H.out.2.2.2.2.1,be.lt H.out.2.2.2.2.2 H2.out.2.2.1.size⟩,H2.out.2.2.1⟩
 ·have hwf:wh=false:=by rw [←hwh];exact HP.out.2.1 (by rw [hsta];exact hs0)
  subst hwf;have HQ:=aa (HE.out.trans (if_pos (by rw [HV.out.1];exact hs0)));have HR:=aa (de w2 g sta hs0 H2.out.1);clear hsta hwh hs0;go_wp2_with fail;refine HR.out.mono ?_;rintro e w3 ⟨rfl,hK3,hs3⟩;have H3:=aa (ab hK3 hs3);clear hK3 hs3;go_wp2_with fail
  go_end0
  rw [HQ.out,HV.out.1];exact bZ.badOf H.out.2.2.2.2.1 H.out.2.2.2.2.2 (H2.out.2.2.1.tt (H3.out.2.mono (fun x _ e=>e ▸ H.out.2.2.2.2.1):Sm O w2 _)) H3.out.1
theorem rn(w:World)(O:Nat→Prop)(g:Nat)(h:Hd)(L:ah)(c:UInt8)(hI:bZ w O g (.head h L))(hg:G0 w)(hO0:¬O 0)(ho:cK (.head h L)):
 Calls Tryz.prog 153 #[.pointer (some ⟨g,0,none⟩),.int .u8 c.toNat] w (dO w O g (eP h L c)):=by
 have hl:=ho.2.line;by_cases h10:c=10
 ·by_cases h13:L.getLast?=some 13
  ·exact F2 w O g h L c hI hl hg hO0 ho.2 ho.1 h13 h10
  ·rw [Ca h10 h13];by_cases h0:L.length=0
   ·have:=List.eq_nil_of_length_eq_zero h0;subst this;exact FZ w O g h c hI h10
   ·exact Gp w O g h L c hI (by omega) (by omega) (qH h13) h10
 ·rw [Cc h10];by_cases hk:256 < cG L c
  ·rw [if_pos hk];by_cases h13:c=13
   ·exact Fg w O g h L c hI (by omega) h13 hk
   ·exact Fr w O g h L c hI (by omega) h10 h13 hk
  ·rw [if_neg hk];by_cases h13:c=13
   ·exact FE w O g h L c hI (by omega) h13 hk
   ·exact FK w O g h L c hI (by omega) h10 h13 hk
end Go.Proofs.YtadcjgopaadfjaaGreatDoor
