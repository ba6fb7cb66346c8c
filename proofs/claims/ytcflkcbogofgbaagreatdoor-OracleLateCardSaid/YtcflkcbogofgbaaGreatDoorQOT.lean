import Derived.Test.YtcflkcbogofgbaaGreatDoorQOS
import Derived.Test.YtcflkcbogofgbaaGreatDoorQGA
import Derived.Test.YtcflkcbogofgbaaGreatDoorQSiteD
import Derived.Test.YtcflkcbogofgbaaGreatDoorQOR
set_option maxHeartbeats 32000000
set_option maxRecDepth 100000
namespace Go.Proofs.YtcflkcbogofgbaaGreatDoor
open Go.RowKit Go.Proofs
def om(s:cu):Int:=if s.phase=4 then s.status else 0
theorem uE {w w2 w3 W:World} {T:List bE} {t:af} {qs:List gJ} {R O:Nat→Prop} {s g nq c':Nat} {A':Option Addr} (hnq:qs.length=nq) (hrq:gz w3 w2.heap.size R (.slice A' qs.length c') qs) (hI:gI w3 O s T) (hz:w.heap.size≤w2.heap.size) (hqx:qs.map (·.x)=(ap t).1) (hw3:Sm No w w3) (hs:Sm No w3 W)
 (hb:Bk W g 57 #[.pointer (some ⟨s,0,none⟩),.slice A' nq c',.int .i64 (om (ap t).2.2)]):
 ∃ g' qs,Ending.returned (.pointer (some ⟨g,0,none⟩))=.returned (.pointer (some ⟨g',0,none⟩))∧rd W w.heap.size g' T qs (om (ap t).2.2)∧qs.map (·.x)=(ap t).1∧Sm No w W:=by
 rw [←hnq] at hb;have e:=hrq.no hs;exact⟨g,qs,rfl,⟨s,_,O,R,hb,hI.no hs,⟨bc e.own (fun b e2=>Nat.le_trans hz (World.ownsRow.lt hrq.own b e2).1),e.ok,e.apart⟩⟩,hqx,hw3.tt hs⟩
theorem Bx (w:World) (hg:G1 w) (C:oa) (hok:C.ok=true) (T:List bE) (hCl:C.tl=T.length) (hT:ar w C.ta (cD T)) (h0:C.ta=none→T.length=0∧C.tc=0) (hTl:T.length≤1000000) (hsm:lZ T) (hS:dJ T=0)
 (A:Option Addr) (cp:Nat) (t:af) (hR:ar w A (t.map aM)) (hn:A=none→t.length=0∧cp=0) (hcp:t.length≤cp) (hl:t.length≤100000) (hcp2:cp≤140737488351232):
 Calls Tryz.prog 22 #[.agg C.vals,.slice A t.length cp] w fun e w'=>∃ g qs,e=.returned (.pointer (some ⟨g,0,none⟩))∧rd w' w.heap.size g T qs (om (ap t).2.2)∧qs.map (·.x)=(ap t).1∧Sm No w w':=by
 have HN:=ns (fun W=>Gk C W hok);have HSi:=ns (fun (W:World) (h:Sm No w W)=>Cr W (hg.1.no h) C.ta C.tc T (hT.no h) h0 hTl hsm);have HRd:=ns (fun (W:World) (h:Sm No w W)=>Ad W A cp t (hg.1.no h) (hR.no h) hn hcp hl hcp2);have HS0:=ns hS;clear hg hok hT h0 hTl hsm hS hR hn hcp hl hcp2;obtain⟨nt,hnt⟩:∃ n,t.length=n:=⟨_,rfl⟩;rw [hnt] at HRd ⊢;clear hnt;unfold oa.vals;rw [hCl];go_in;go_wp2_with (refine bF rfl 25 _ rfl Tryz.underlying25 16 js _ rfl _ (Bk.new _ _ _) rfl ?_);have HN1:=ns (HN.out (w.alloc (.cells C.vals 25)));unfold oa.vals at HN1;rw [hCl] at HN1;refine HN1.out.mono ?_;rintro e w1 ⟨gg,mm, -, -,rfl, -,hs1⟩;have hb1:=(Bk.new w 25 C.vals).sm (w':=w1) (S:=No) (by unfold oa.vals;rw [hCl];exact hs1) (fun e=>e);have hw1:Sm No w w1:=((Sm.refl No w).alloc _).tt hs1;have d15:=hb1.at 15 (v:=.slice C.ta T.length C.tc) (by rw [←hCl];rfl);have dl:=hb1.lt;have H1:=ns hw1;clear hs1 hb1 hw1 hCl HN HN1;go_wp2_with fail;refine(HSi.out w1 H1.out).mono ?_;rintro e w2 hP;rcases hP with ⟨-,s,O,rfl,hI,hs2,hO⟩|⟨h, -⟩
 case inr=>exact absurd HS0.out h
 have H2:=ns (BT hI (BT (H1.out.tt hs2) hO));clear hI hs2 hO d15 dl;go_wp2_with fail;refine(HRd.out w2 H2.out.2.1).mono ?_;rintro e w3 ⟨v,qs,R,rfl,hqx,hrq,hRb,hs3⟩;obtain⟨A',c',rfl, -⟩:=ak hrq.own;unfold ul;obtain⟨n0,hn0⟩:∃ n,(ap t).2.1=n:=⟨_,rfl⟩;obtain⟨ps,hps⟩:∃ p,(ap t).2.2=p:=⟨_,rfl⟩;obtain⟨ph,hph⟩:∃ p,ps.phase=p:=⟨_,rfl⟩;obtain⟨st,hst⟩:∃ p,ps.status=p:=⟨_,rfl⟩;obtain⟨nq,hnq⟩:∃ n,qs.length=n:=⟨_,rfl⟩;rw [hn0,hps,hph,hst,hnq];have HV:=ns (BT hph (BT hst (BT hnq (BT hqx (BT hrq (BT (H2.out.2.1.tt hs3) (BT (H2.out.1.no hs3) H2.out.2.1.size)))))));have HPh:=ns (show om (ap t).2.2=if ph=4 then st else 0 from by unfold om;rw [hps,hph,hst]);clear hn0 hps hph hst hnq hqx hrq hRb hs3;obtain⟨b4,hb4⟩:∃ b,w3.heap.size=b:=⟨_,rfl⟩;have HB4:=ns hb4;clear hb4;have hpd:(ph==4)=decide (ph=4):=by by_cases h:ph=4<;>simp [h]
 by_cases hp4:ph=4
 ·subst hp4;clear hpd;go_wp2_with fail;go_ret;have hs:Sm No w3 _:=((Sm.refl No w3).alloc (.cells #[.int .i64 (n0:Int),.int .i64 4,.int .i64 st] 87)).alloc (.cells #[.pointer (some ⟨s,0,none⟩),.slice A' nq c',.int .i64 st] 57);have h4:=HPh.out;rw [if_pos trivial] at h4;exact uE HV.out.2.2.1 HV.out.2.2.2.2.1 HV.out.2.2.2.2.2.2.1 HV.out.2.2.2.2.2.2.2 HV.out.2.2.2.1 HV.out.2.2.2.2.2.1 hs (by rw [h4];exact Bk.newAt (w3.alloc _) _ _ (by simp))
 ·have hpf:(ph==4)=false:=by simp [hp4]
  have HNe:=ns hp4;clear hpd hp4;go_wp2_with fail;go_ret;have hs:Sm No w3 _:=((Sm.refl No w3).alloc (.cells #[.int .i64 (n0:Int),.int .i64 ph,.int .i64 st] 87)).alloc (.cells #[.pointer (some ⟨s,0,none⟩),.slice A' nq c',.int .i64 0] 57);exact uE HV.out.2.2.1 HV.out.2.2.2.2.1 HV.out.2.2.2.2.2.2.1 HV.out.2.2.2.2.2.2.2 HV.out.2.2.2.1 HV.out.2.2.2.2.2.1 hs (by rw [HPh.out,if_neg HNe.out];exact Bk.newAt (w3.alloc _) _ _ (by simp))
def tu(T:List bE)(quit:Bool)(qs:List gJ)(st:Int):List af:=qs.map (fun q=>BA T quit q.x)++(if st=0 then [] else [uN st])
theorem CJ(T:List bE)(quit:Bool)(qs:List gJ)(st:Int):(tu T quit qs st).length=qs.length+if st=0 then 0 else 1:=by
 unfold tu;split<;>simp
theorem rL{t:af}(h:om (ap t).2.2≠0):om (ap t).2.2∈gi∧(ap t).2.2.phase=4∧(ap t).2.2.status=om (ap t).2.2:=by
 unfold om at h ⊢;split at h
 ·rename_i hp
  rw [if_pos hp];refine⟨?_,hp,rfl⟩;obtain⟨s,hs⟩:=Iu ((ap t).2.2);rw [hs] at hp ⊢
  cases s with
  |bad st=>exact qm t hs
  |idle=>exact absurd hp (by decide)
  |head _ _=>exact absurd hp (by simp [cu.phase])
  |len _ _=>exact absurd hp (by simp [cu.phase])
  |chunk _ _ _=>exact absurd hp (by simp [cu.phase])
  |whole _ _=>exact absurd hp (by simp [cu.phase])
 ·exact absurd rfl h
theorem kV{t:af}:om (ap t).2.2=0↔¬(ap t).2.2.phase=4:=by
 constructor
 ·intro h hp;obtain⟨s,hs⟩:=Iu ((ap t).2.2);rw [hs] at hp h
  cases s with
  |bad st=>
   have h1:=qm t hs;unfold om at h;rw [if_pos hp] at h;exact B6 h1 h
  |idle=>exact absurd hp (by decide)
  |head _ _=>exact absurd hp (by simp [cu.phase])
  |len _ _=>exact absurd hp (by simp [cu.phase])
  |chunk _ _ _=>exact absurd hp (by simp [cu.phase])
  |whole _ _=>exact absurd hp (by simp [cu.phase])
 ·intro h;unfold om;rw [if_neg h]
theorem Gb(T:List bE)(quit:Bool){t:af}{qs:List gJ}(h:qs.map (·.x)=(ap t).1):tu T quit qs (om (ap t).2.2)=iW T quit t:=by
 unfold tu iW tC;rw [←h,List.map_map];congr 1;by_cases hp:(ap t).2.2.phase=4
 ·rw [if_pos hp,if_neg (fun e=>kV.1 e hp)];unfold om;rw [if_pos hp]
 ·rw [if_neg hp,if_pos (kV.2 hp)]
theorem yD:∀ c∈gi,200≤c∧c≤599:=by decide
structure FX (T:List bE) (t:af) (qs:List gJ):Prop where
 hT:dJ T=0
 sm:lZ T
 pl:∀ x∈T,Lib.hasPrefix (ab x.type) jz=false
 qx:qs.map (·.x)=(ap t).1
 ql:qs.length≤1000000
theorem oq(t:af):(ap t).1.length≤t.length:=by
 have:∀ (k:Nat) (t:af),(cR k t).1.length≤t.length:=by
  intro k
  induction k with
  |zero=>intro t;exact Nat.zero_le _
  |succ k ih=>
   intro t;obtain⟨s,n,hf⟩:∃ s n,au .idle t=(s,n):=⟨_,_,rfl⟩;by_cases hp:s.phase=3
   ·obtain⟨h,b,rfl⟩:=gY hp;have hq:=gM hf rfl
    cases hc:h.how.close with
    |true=>rw [dS hf hc];show 1≤_;omega
    |false=>
     rw [dX hf hc];have:=ih (t.drop n);rw [List.length_drop] at this;show _+1≤_;omega
   ·rw [dr hf hp];exact Nat.zero_le _
 exact this _ t
theorem FX.at{T:List bE}{t:af}{qs:List gJ}(h:FX T t qs){q:gJ}(hq:q∈qs):bI (.whole q.x.1 q.x.2)∧hY (.whole q.x.1 q.x.2):=by
 have hm:q.x∈(ap t).1:=by rw [←h.qx];exact List.mem_map.2 ⟨q,hq,rfl⟩
 exact⟨(sC t).1 _ hm,CP t _ hm⟩
theorem rd.no{w w':World}{B g:Nat}{T:List bE}{qs:List gJ}{st:Int}(h:rd w B g T qs st)(hs:Sm No w w'):rd w' B g T qs st:=by
 obtain⟨s,vR,O,R,h1,h2,h3⟩:=h;exact⟨s,vR,O,R,h1.sm hs (fun e=>e),h2.no hs,h3.no hs⟩
theorem E9(w:World)(hg:G1 w)(B g:Nat)(T:List bE)(t:af)(qs:List gJ)(h:rd w B g T qs (om (ap t).2.2))(K:FX T t qs)(quit:Bool)(k:Nat)(a:af)(hk:(tu T quit qs (om (ap t).2.2))[k]?=some a):
 Calls Tryz.prog 24 #[.pointer (some ⟨g,0,none⟩),.int .i64 (k:Int),.bool quit] w fun e w'=>∃ v,e=.returned v∧ay w' w.heap.size v a∧Sm No w w':=by
 by_cases hl:k < qs.length
 ·have hq:qs[k]?=some qs[k]:=List.getElem?_eq_getElem hl;have ha:a=BA T quit qs[k].x:=by
   unfold tu at hk;rw [List.getElem?_append_left (by simpa using hl),List.getElem?_map,hq] at hk;injection hk with hk;exact hk.symm
  rw [ha];obtain⟨h1,h2⟩:=K.at (List.getElem_mem hl);exact yL w hg B g T qs _ h K.hT K.sm K.pl k qs[k] hq h1 h2 quit
 ·unfold tu at hk;rw [List.getElem?_append_right (by simpa using hl),List.length_map] at hk;by_cases h0:om (ap t).2.2=0
  ·rw [if_pos h0] at hk;cases hk
  ·rw [if_neg h0] at hk;have hkl:k=qs.length:=by
    have:=(List.getElem?_eq_some_iff.1 hk).1;rw [List.length_singleton] at this;omega
   subst hkl;rw [Nat.sub_self] at hk;injection hk with hk;rw [←hk];exact zu w hg B g T qs _ h (yD _ (rL h0).1) quit
structure Iq (w0:World) (L:List af) (lv iv:Value) (wr:World) (k:Nat) (ms:List mL) (R:Nat→Prop):Prop where
 hk:k≤L.length
 ie:iv=.int .i64 (k:Int)
 mt:ms.map (·.t)=L.take k
 rows:sH wr w0.heap.size R lv ms
 rb:∀ x,R x→w0.heap.size≤x∧x < wr.heap.size
 sm:Sm No w0 wr
theorem Iq.push {w1 wr w2 w6:World} {L:List af} {lv iv v6:Value} {k:Nat} {ms:List mL} {R:Nat→Prop} {m:mL} (h:Iq w1 L lv iv wr k ms R) (ha:L[k]?=some m.t) (hO:ay w2 wr.heap.size m.cell m.t) (hm:m.In w2 (fun x=>m.cell.ownBlock=some x)) (hs2:Sm No wr w2)
 (hown:w6.ownsRow w1.heap.size 22 1 v6 (ms.length+1) (ms.map mL.cell++[m.cell])) (hs6:Sm (fun b=>lv.ownBlock=some b) (w2.alloc (.cells #[m.cell] 22)) w6) (hv6:v6.ownBlock=lv.ownBlock∨v6.ownBlock=some (w2.alloc (.cells #[m.cell] 22)).heap.size):
 Iq w1 L v6 (.int .i64 ((k+1:Nat):Int)) w6 (k+1) (ms++[m]) (fun x=>R x∨m.cell.ownBlock=some x):=by
 have h2:=hs2.alloc (.cells #[m.cell] 22);have lm:∀ b,m.cell.ownBlock=some b→wr.heap.size≤b∧b < w2.heap.size:=fun b e=>World.ownsRow.lt hO b e;have lv':∀ b,lv.ownBlock=some b→w1.heap.size≤b∧b < wr.heap.size:=fun b e=>World.ownsRow.lt h.rows.own b e;have z2:=hs2.size;have z1:=h.sm.size;have z6:=hs6.size;rw [World.size_alloc] at z6 hv6;refine⟨(List.getElem?_eq_some_iff.1 ha).1,rfl,?_,⟨?_,?_,?_⟩,?_,(h.sm.tt h2).fresh hs6 (fun b e=>(lv' b e).1)⟩
 ·rw [List.map_append,h.mt,List.take_add_one,ha];rfl
 ·rw [List.length_append,List.map_append];exact hown
 ·intro x hx;rcases List.mem_append.1 hx with hx|hx
  ·exact(((h.rows.ok x hx).sm h2 (fun _ _ e=>e)).sm hs6 (fun b e e2=>h.rows.apart b e2 e)).imp (fun _ e=>Or.inl e)
  ·rw [List.mem_singleton] at hx;subst hx;exact((hm.sm ((Sm.refl No w2).alloc _) (fun _ _ e=>e)).sm hs6 (fun b e e2=>by have:=(lm b e).1;have:=(lv' b e2).2;omega)).imp (fun _ e=>Or.inr e)
 ·intro b e;rcases hv6 with hv|hv
  ·rw [hv] at e;rintro(e2|e2)
   ·exact h.rows.apart b e e2
   ·have:=(lm b e2).1;have:=(lv' b e).2;omega
  ·rw [hv] at e;injection e with e;rintro(e2|e2)
   ·have:=(h.rb b e2).2;omega
   ·have:=(lm b e2).2;omega
 ·rintro x (e|e)
  ·have:=h.rb x e;omega
  ·have:=lm x e;omega
def mW(w:World)(T:List bE)(t:af)(e:Ending)(w':World):Prop:=
 ∃ v ms R,e=.returned (.tuple #[v,.bool (gc t)])∧ms.map (·.t)=iW T false t∧sH w' w.heap.size R v ms∧(∀ x,R x→w.heap.size≤x∧x < w'.heap.size)∧Sm No w w'
theorem FU{w:World}{A:Option Addr}{qs:List gJ}{q:gJ}{n:Nat}(h:ar w A (dw qs))(hq:qs[n]?=some q):∃ bb off,A=some ⟨bb,off,none⟩∧bb < w.heap.size∧w.cell? ⟨bb,off+n * 10+8,none⟩=some (.bool q.x.1.how.close):=by
 obtain⟨bb,off,hA,hb,hc⟩:=C8 h hq;exact⟨bb,off,hA,hb,hc 8 _ rfl⟩
theorem wJ{t:af}{qs:List gJ}{q:gJ}{n:Nat}(hx:qs.map (·.x)=(ap t).1)(hn:qs.length=n+1)(hq:qs[n]?=some q):cU (ap t).1=q.x.1.how.close:=by
 unfold cU;rw [←hx,List.getLast?_eq_getElem?,List.length_map,hn,Nat.add_sub_cancel,List.getElem?_map,hq];rfl
theorem xD{t:af}{qs:List gJ}(hx:qs.map (·.x)=(ap t).1)(hn:qs.length=0):cU (ap t).1=false:=by
 rw [←hx,List.eq_nil_of_length_eq_zero hn];rfl
theorem li (w:World) (hg:G1 w) (C:oa) (hok:C.ok=true) (T:List bE) (hCl:C.tl=T.length) (hT:ar w C.ta (cD T)) (h0:C.ta=none→T.length=0∧C.tc=0) (hTl:T.length≤1000000) (hsm:lZ T) (hS:dJ T=0) (hpl:∀ x∈T,Lib.hasPrefix (ab x.type) jz=false)
 (A:Option Addr) (cp:Nat) (t:af) (hR:ar w A (t.map aM)) (hn:A=none→t.length=0∧cp=0) (hcp:t.length≤cp) (hl:t.length≤100000) (hcp2:cp≤140737488351232):
 Calls Tryz.prog 8 #[.agg C.vals,.slice A t.length cp] w (mW w T t):=by
 have HTo:=ns (fun (W:World) (h:Sm No w W)=>Bx W (hg.no h) C hok T hCl (hT.no h) h0 hTl hsm hS A cp t (hR.no h) hn hcp hl hcp2);have HG:=ns hg;have HK:=ns (BT hS (BT hsm (BT hpl hl)));have HL:=ns (BT hCl hTl);clear hg hok hT h0 hsm hS hpl hR hn hcp hcp2;obtain⟨nt,hnt⟩:∃ n,t.length=n:=⟨_,rfl⟩;rw [hnt] at HTo hl ⊢;clear hnt;unfold oa.vals;rw [hCl];go_in;go_wp2_with (refine bF rfl 25 _ rfl Tryz.underlying25 16 js _ rfl _ (Bk.new _ _ _) rfl ?_);have HT1:=ns (HTo.out (w.alloc (.cells C.vals 25)) ((Sm.refl No w).alloc _));unfold oa.vals at HT1;rw [hCl] at HT1;clear hCl;refine HT1.out.mono ?_;rintro e w1 ⟨g,qs,rfl,hTel,hqx,hs1⟩;have hK:FX T t qs:=⟨HK.out.1,HK.out.2.1,HK.out.2.2.1,hqx,by have h:=oq t;rw [←hqx,List.length_map] at h;have:=HK.out.2.2.2;omega⟩;have hw1:Sm No w w1:=((Sm.refl No w).alloc (.cells C.vals 25)).tt (by unfold oa.vals;rw [HL.out.1];exact hs1);obtain⟨L,hL⟩:=Iu (tu T false qs (om (ap t).2.2));obtain⟨st,hst⟩:=Iu (om (ap t).2.2);have hLl:=CJ T false qs (om (ap t).2.2);rw [hL,hst] at hLl;have HLen:=ns (fun (W:World) (h:Sm No w1 W)=>BL W _ g T qs (om (ap t).2.2) (hTel.no h) hK.ql);rw [hst] at HLen;rw [←hLl] at HLen;have hLb:L.length≤1000001:=by have:=hK.ql;rw [hLl];split<;>omega
 have H1:=ns (BT hTel (BT hK (BT hw1 (BT hL hst))));have HLl:=ns hLl;clear hTel hK hqx hs1 hw1 hL hst hLl HT1 HTo;go_wp2_with fail;refine(HLen.out w1 (Sm.refl No w1)).mono ?_;rintro e w2 ⟨rfl,rfl⟩;obtain⟨NL,hNL⟩:∃ n,L.length=n:=⟨_,rfl⟩;rw [hNL] at hLb HLl HLen ⊢;have HNL:=ns hNL;clear hNL;go_wp2_with fail
 go_loopw [7,8,17] (fun lv _ iv wr=>∃ k ms R,Iq w1 L lv iv wr k ms R) (fun _ _ iv _=>NL-(intOf iv).toNat)
 case atStart=>
  exact⟨0,[],fun _=>False,⟨Nat.zero_le _,rfl,rfl,⟨World.ownsRow_nil _ _ _ _,(fun m hm=>by cases hm),(fun b e=>by cases e)⟩,fun x e=>e.elim,Sm.refl _ _⟩⟩
 case round=>
  obtain⟨k,ms,R,hS⟩:=hrel;have hk:=hS.hk;have hie:=hS.ie;subst hie;rw [HNL.out] at hk;have hlk:ms.length=k:=by
   have:=congrArg List.length hS.mt;rw [List.length_map,List.length_take,HNL.out] at this;omega
  have HS:=ns hS;clear hS;by_cases hlt:k < NL
  ·obtain⟨a,ha⟩:∃ a,L[k]?=some a:=⟨_,List.getElem?_eq_getElem (by rw [HNL.out];exact hlt)⟩;have HA:=ns (E9 wr (HG.out.no (H1.out.2.2.1.tt HS.out.sm)) _ g T t qs (H1.out.1.no HS.out.sm) H1.out.2.1 false k a (by rw [H1.out.2.2.2.1];exact ha));have HAt:=ns ha;have k1:(k:Int) < (NL:Int):=by omega
   clear ha;go_wp2_with fail;refine HA.out.mono ?_;rintro e w3 ⟨v,rfl,hO,hs3⟩;obtain⟨m,hma,rfl,hmi⟩:=hO.an;rw [←hma] at hO;have HM:=ns (BT hma (BT hO (BT hmi hs3)));have hown:(w3.alloc (.cells #[m.cell] 22)).ownsRow w1.heap.size 22 1 u7 ms.length (ms.map mL.cell):=(HS.out.rows.no hs3).own.alloc _;have hone:∀ u∈(#[m.cell]:Array Value).toList,u.oneCell'=true:=fun u hu=>by rw [List.mem_singleton] at hu;subst hu;rfl
   have hz:w1.heap.size≤(w3.alloc (.cells #[m.cell] 22)).heap.size:=by rw [World.size_alloc];have:=HS.out.sm.size;have:=hs3.size;omega
   have hb3:=Bk.new w3 22 #[m.cell];obtain⟨vm,hvm⟩:∃ v,m.cell=v:=⟨_,rfl⟩;obtain⟨x1,x2,x3,hvx⟩:∃ x1 x2 x3,m.cell=.slice x1 x2 x3:=⟨_,_,_,rfl⟩;rw [hvx] at hown hone hz hb3;have HP:=ns (BT hown (BT hone (BT hz (BT hb3 (show ms.length≤1000000 from by omega)))));have HVx:=ns hvx;clear hO hmi hs3 hma hown hone hz hb3 hvm;rw [hvx];clear hvx;go_wp2_with (at_builtin;refine aq rfl _ _ 27 22 rfl Tryz.underlying27 (.slice none 0 0) 1 24 Gw rfl (by decide) (by decide) w1.heap.size ms.length u7 (ms.map mL.cell) rfl HP.out.1 w3.heap.size #[.slice x1 x2 x3] rfl HP.out.2.2.2.1 rfl HP.out.2.1 HP.out.2.2.2.2 HP.out.2.2.1 ?_;intro v6 w6 hown6 hs6 hv6;have H6:=ns (BT hown6 (BT hs6 hv6));clear hown6 hs6 hv6);have h6:=H6.out;rw [←HVx.out] at h6;refine⟨⟨k+1,ms++[m],fun x=>R x∨m.cell.ownBlock=some x,?_⟩,by simp [intOf];omega⟩;rw [show ((k:Int)+1)=((k+1:Nat):Int) from by omega];exact HS.out.push (by rw [HM.out.1];exact HAt.out) HM.out.2.1 HM.out.2.2.1 HM.out.2.2.2 h6.1 h6.2.1 h6.2.2
  ·have hkN:k=NL:=by omega
   have HF:=ns (show (∀ W,Sm No wr W→∀ c,gc t=c→mW w T t (.returned (.tuple #[u7,.bool c])) W) from fun W hW c hc=>by
    have e:=HS.out.rows.no hW;have z0:=H1.out.2.2.1.size;have z1:=HS.out.sm.size;have z2:=hW.size;refine⟨u7,ms,R,by rw [hc],?_,⟨bc e.own (fun b e2=>by have:=(World.ownsRow.lt HS.out.rows.own b e2).1;omega),e.ok,e.apart⟩,fun x ex=>by have:=HS.out.rb x ex;omega,(H1.out.2.2.1.tt HS.out.sm).tt hW⟩;rw [HS.out.mt,←Gb T false H1.out.2.1.qx,H1.out.2.2.2.1,List.take_of_length_le (by rw [HNL.out];omega)])
   obtain⟨s,vR,O,R0,hb, -,hq⟩:=H1.out.1.no HS.out.sm;obtain⟨A',c',rfl,hrow, -⟩:=ak hq.own;have d1:=hb.at 1 (v:=.slice A' qs.length c') rfl;have d2:=hb.at 2 (v:=.int .i64 (om (ap t).2.2)) rfl;have dl:=hb.lt;rw [H1.out.2.2.2.2] at d2;have k1:¬(k:Int) < (NL:Int):=by omega
   clear hb hq;by_cases h0:st=0
   ·subst h0;have hp4:¬(ap t).2.2.phase=4:=kV.1 H1.out.2.2.2.2;have hl0:gc t=cU (ap t).1:=by unfold gc;rw [decide_eq_false hp4,Bool.false_or]
    have HL0:=ns hl0;clear hp4 hl0
    cases hqn:qs.length with
    |zero=>
     have HE:=ns (HL0.out.trans (xD H1.out.2.1.qx hqn));rw [hqn] at d1;clear hqn hrow;go_wp2_with fail;go_quiet (fail);go_wp2_with fail;go_ret2;exact HF.out _ ((Sm.refl No wr).drewN _) false HE.out
    |succ n=>
     obtain⟨q,hq⟩:∃ q,qs[n]?=some q:=⟨_,List.getElem?_eq_getElem (by omega)⟩;have HE:=ns (HL0.out.trans (wJ H1.out.2.1.qx hqn hq));obtain⟨bb,off,rfl,hbb,r8⟩:=FU hrow hq;rw [hqn] at d1;obtain⟨cl,hcl⟩:∃ c,q.x.1.how.close=c:=⟨_,rfl⟩;rw [hcl] at r8 HE;obtain⟨nq,hnq⟩:∃ x,n+1=x:=⟨_,rfl⟩;rw [hnq] at d1;have hsub:(nq:Int)-1=(n:Int):=by omega
     have j0:(n:Int)≤1000000:=by have:=H1.out.2.1.ql;omega
     have j1:(0:Int)≤(n:Int):=by omega
     have j2:(n:Int) < (nq:Int):=by omega
     have j3:decide ((0:Int)≤(n:Int))=true:=decide_eq_true j1;clear hqn hrow hq hcl hnq;go_wp2_with fail;go_quiet (fail);go_wp2_with fail;go_ret2;exact HF.out _ ((Sm.refl No wr).drewN _) cl HE.out
   ·have hst:(st != 0)=true:=by simp [h0]
    have HE:=ns (show gc t=true from pN (rL (t:=t) (by rw [H1.out.2.2.2.2];exact h0)).2.1);clear h0 hrow;go_wp2_with fail;go_quiet (fail);go_wp2_with fail;go_ret2;exact HF.out _ ((Sm.refl No wr).drewN _) true HE.out
end Go.Proofs.YtcflkcbogofgbaaGreatDoor
