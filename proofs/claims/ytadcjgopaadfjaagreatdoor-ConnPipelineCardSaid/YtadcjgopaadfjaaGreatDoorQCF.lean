import Derived.Test.YtadcjgopaadfjaaGreatDoorQCD
import Derived.Test.YtadcjgopaadfjaaGreatDoorQCE
set_option maxHeartbeats 16000000
set_option maxRecDepth 100000
namespace Go.Proofs.YtadcjgopaadfjaaGreatDoor
open Go.RowKit Go.Proofs
structure IF (K:Kn):Prop where
 pace:K.C.pace=0
 i:0≤K.C.idle∧K.C.idle≤1000000000000
 h:0≤K.C.head∧K.C.head≤1000000000000
 b:0≤K.C.body∧K.C.body≤1000000000000
 w:0≤K.C.write∧K.C.write≤1000000000000
 l:0≤K.C.linger∧K.C.linger≤1000000000000
theorem Hf(w0 w:World)(D:Nat→Nat→Prop)(c:Nat)(z:Zn)(K:Kn)(s:Cn)(h:aq w0 w D c z K s)(hK:IF K)(hc:s.closed=false)(ht: -1000000000000≤s.since∧s.since≤1000000000000)(hp:s.phase=0∨s.phase=1∨s.phase=2∨s.phase=3∨s.phase=4):
 Calls Tryz.prog 14 #[.pointer (some ⟨c,0,none⟩)] w fun e w'=>e=.returned (.tuple #[.int .i64 (s.since+eu K.C s.phase),.bool true])∧Sm No w w':=by
 have hcl:=h.bk.lt;have c5:=h.bk.at 5 (v:=.int .i64 K.C.idle) rfl;have c6:=h.bk.at 6 (v:=.int .i64 K.C.head) rfl;have c7:=h.bk.at 7 (v:=.int .i64 K.C.body) rfl;have c8:=h.bk.at 8 (v:=.int .i64 K.C.write) rfl;have c9:=h.bk.at 9 (v:=.int .i64 K.C.linger) rfl;have c10:=h.bk.at 10 (v:=.int .i64 K.C.pace) rfl;have c20:=h.bk.at 20 (v:=.int .i64 s.phase) rfl;have c21:=h.bk.at 21 (v:=.int .i64 s.since) rfl;have c27:=h.bk.at 27 (v:=.bool s.closed) rfl;have hk:=hK.pace;obtain⟨p,tm,hp1,htm,hpt,htb⟩:∃ (p:Nat) (tm:Int),s.phase=(p:Int)∧eu K.C s.phase=tm∧([K.C.idle,K.C.head,K.C.body,K.C.write,K.C.linger]:List Int)[p]?=some tm∧(0≤tm∧tm≤1000000000000):=by
  rcases hp with e|e|e|e|e
  ·exact⟨0,_,e,rfl,by rw [e];rfl,by rw [e];exact hK.i⟩
  ·exact⟨1,_,e,rfl,by rw [e];rfl,by rw [e];exact hK.h⟩
  ·exact⟨2,_,e,rfl,by rw [e];rfl,by rw [e];exact hK.b⟩
  ·exact⟨3,_,e,rfl,by rw [e];rfl,by rw [e];exact hK.w⟩
  ·exact⟨4,_,e,rfl,by rw [e];rfl,by rw [e];exact hK.l⟩
 rw [hc] at c27;rw [hk] at c10;obtain⟨t,hte⟩:∃ x,s.since=x:=⟨_,rfl⟩;obtain⟨ci,hci⟩:∃ x,K.C.idle=x:=⟨_,rfl⟩;obtain⟨ch,hch⟩:∃ x,K.C.head=x:=⟨_,rfl⟩;obtain⟨cb,hcb⟩:∃ x,K.C.body=x:=⟨_,rfl⟩;obtain⟨cw,hcw⟩:∃ x,K.C.write=x:=⟨_,rfl⟩;obtain⟨cl,hcl2⟩:∃ x,K.C.linger=x:=⟨_,rfl⟩;rw [htm,hte];rw [hp1] at c20;rw [hte] at c21 ht;rw [hci] at c5 hpt;rw [hch] at c6 hpt;rw [hcb] at c7 hpt;rw [hcw] at c8 hpt;rw [hcl2] at c9 hpt;have hpl:p < 5:=(List.getElem?_eq_some_iff.1 hpt).1;have n0:IntKind.i64.wrap (t+tm)=t+tm:=IntWalk.i64_in _ (by omega);have k0:(0:Int)≤(p:Int):=by omega
 have k1:(p:Int) < 5:=by omega
 have hnew:∀ W:World,(W.alloc (.cells #[.int .i64 ci,.int .i64 ch,.int .i64 cb,.int .i64 cw,.int .i64 cl] 3)).cell? ⟨W.heap.size,p,none⟩=some (.int .i64 tm):=fun W=>by
  refine(cell_of_row _ W.heap.size p _ _ _ (heap_alloc_new W _)).trans ?_;have:p=0∨p=1∨p=2∨p=3∨p=4:=by omega
  rcases this with rfl|rfl|rfl|rfl|rfl<;>simpa using hpt
 have r0:=hnew w;have r1:=hnew w.drew;clear h hc hk hte hci hch hcb hcw hcl2 ht htm hpt hp hp1 htb hK hnew;go_in;go_wp2_with fail
 go_region
 as_aux_lemma=>
  by_cases e2:(p:Int)=2
  ·have b2:((p:Int)==2)=true:=by simpa using e2
   go_wp2_with fail;go_ret2;exact⟨rfl,((Sm.refl No w).alloc _).drew⟩
  ·have b2:((p:Int)==2)=false:=by simpa using e2
   go_wp2_with fail;go_ret2;exact⟨rfl,((Sm.refl No w).alloc _).drew⟩
def Iu(s:Cn):Bool:=decide (s.b.length≤900000)&&(decide (s.ps.length≤100000)&&(decide (s.last≤1000000)&&decide (s.laid≤1000000)))
def Hi(s:Cn):Bool:= !s.closed&&(decide (0≤s.phase)&&(decide (s.phase≤4)&&(decide (-1000000000000≤s.since)&&decide (s.since≤1000000000000))))
def Hl(K:Kn)(s:Cn)(now:Int):Bool:=Hi s&&(decide (now < s.since+eu K.C s.phase)||(decide (s.phase≠1)&&decide (s.phase≠2))||(!s.ending&&Iu s))
theorem Hr{s:Cn}(h:Hi s=true):s.closed=false∧(s.phase=0∨s.phase=1∨s.phase=2∨s.phase=3∨s.phase=4)∧ -1000000000000≤s.since∧s.since≤1000000000000:=by
 simp only [Hi,Bool.and_eq_true,Bool.not_eq_true',decide_eq_true_eq] at h;exact⟨h.1,by omega,h.2.2.2⟩
theorem IM:(BW 408).length≤100000:=by decide+kernel
theorem IC{s:Cn}(h:Iu s=true):zR s (BW 408).length:=by
 simp only [Iu,Bool.and_eq_true,decide_eq_true_eq] at h;have:=IM;exact⟨by omega,h.2.1,h.2.2.1,h.2.2.2⟩
theorem Ix(w0 w:World)(D:Nat→Nat→Prop)(c:Nat)(z:Zn)(K:Kn)(s s':Cn)(now:Int)(h:aq w0 w D c z K s)(hK:Ed K)(hC:IF K)(hok:Hl K s now=true)(hd:Iq K s now=some s'):
 Calls Tryz.prog 13 #[.pointer (some ⟨c,0,none⟩),.int .i64 now] w fun e w'=>e=.returned (.tuple #[])∧∃ D',aq w0 w' D' c z K s'∧aZ D w D' w':=by
 unfold Hl at hok;rw [Bool.and_eq_true] at hok;obtain⟨ha,hok⟩:=hok;obtain⟨hcl0,hph,hsi⟩:=Hr ha;have hat:ID K s=s.since+eu K.C s.phase:=by unfold ID;rw [hC.pace];simp
 unfold Iq at hd;rw [hat,hcl0] at hd;have hs1:Sm No w (w.alloc (.cells #[.pointer (some ⟨c,0,none⟩)] 30)):=(Sm.refl No w).alloc _;have hI1:=h.no hs1;have HDl:=aa (Hf w0 _ D c z K s hI1 hC hcl0 hsi hph);obtain⟨at_,hate⟩:∃ x,s.since+eu K.C s.phase=x:=⟨_,rfl⟩;rw [hate] at HDl hd hok;have HI:=aa (ab hI1 hs1);clear hI1 hs1 h;by_cases h1:now < at_
 ·rw [if_pos (Or.inr h1)] at hd;injection hd with hd;subst hd;go_in;go_wp2_with (first|(go_at_call 14;refine HDl.out.mono ?_;rintro e w2 ⟨rfl,hs2⟩;have H2:=aa hs2;clear hs2));refine bodyPost_ret (results_none rfl _ _ _) rfl ?_;exact⟨rfl,D,HI.out.1.no H2.out,aZ.no D (HI.out.2.tt H2.out)⟩
 ·rw [if_neg (by rintro(e|e);exact absurd e (by decide);exact h1 e)] at hd;have HC:=aa (fun (W:World) (hs:Sm No (w.alloc (.cells #[.pointer (some ⟨c,0,none⟩)] 30)) W)=>show W.cell? ⟨w.heap.size,0,none⟩=some (.pointer (some ⟨c,0,none⟩))∧W.cell? ⟨c,20,none⟩=some (.int .i64 s.phase)∧W.cell? ⟨c,21,none⟩=some (.int .i64 s.since)∧W.cell? ⟨c,7,none⟩=some (.int .i64 K.C.body)∧w.heap.size < W.heap.size∧c < W.heap.size from
   ⟨((Bk.new w _ _).sm hs (fun e=>e)).at 0 rfl,((HI.out.1.no hs).bk).at 20 rfl,((HI.out.1.no hs).bk).at 21 rfl,((HI.out.1.no hs).bk).at 7 rfl,((Bk.new w 30 #[.pointer (some ⟨c,0,none⟩)]).sm hs (fun e=>e)).lt,(HI.out.1.no hs).bk.lt⟩)
  obtain⟨ph,hphe⟩:∃ x,s.phase=x:=⟨_,rfl⟩;rw [hphe] at HC hd hph hok hate;by_cases hr:ph=1∨ph=2
  ·have hen:s.ending=false∧Iu s=true:=by
    simp only [Bool.or_eq_true,Bool.and_eq_true,decide_eq_true_eq,Bool.not_eq_true'] at hok;rcases hok with (e|e)|e
    ·exact absurd e h1
    ·rcases hr with e2|e2
     ·exact absurd e2 e.1
     ·exact absurd e2 e.2
    ·exact e
   have hd2:ET K now (fun s=>some (s.lay (BW 408) true)) s=some s':=by
    have hrf:Hk K s 408 now=some s':=by
     rcases hr with e|e
     ·rw [e,if_pos rfl] at hd;exact hd
     ·rw [e,if_neg (by decide),if_pos rfl,if_pos (Or.inl (by rw [e] at hate;have:eu K.C 2=K.C.body:=rfl;omega))] at hd;exact hd
    unfold Hk at hrf;rw [hen.1,hcl0] at hrf;exact hrf
   have HR:=aa (fun (W:World) (hs:Sm No (w.alloc (.cells #[.pointer (some ⟨c,0,none⟩)] 30)) W)=>Hv w0 W D c z K s s' 408 now (HI.out.1.no hs) hK (by decide) hen.1 hcl0 (IC hen.2) hd2);have hcb:=hC.b;rcases hr with rfl|rfl
   ·clear hd hd2 hen hate hphe hok hph hcb ha hcl0 hsi hat hC;go_in;go_wp2_with (first
     |(go_at_call 14;refine HDl.out.mono ?_;rintro e w2 ⟨rfl,hs2⟩;obtain⟨q0,q1,q2,q3,q4,q5⟩:=HC.out w2 hs2;have H2:=aa hs2;clear hs2)
     |(go_at_call 29;refine(HR.out _ H2.out).mono ?_;rintro e w3 ⟨rfl,hI3⟩;have H3:=aa hI3;clear hI3))
    go_end0
    obtain⟨D',hI,hG⟩:=H3.out;exact⟨rfl,D',hI,(aZ.no D (HI.out.2.tt H2.out)).trans hG⟩
   ·obtain⟨t,ht⟩:∃ x,s.since=x:=⟨_,rfl⟩;obtain⟨cb,hcb2⟩:∃ x,K.C.body=x:=⟨_,rfl⟩;rw [ht,hcb2] at HC;have k1:t+cb≤now:=by rw [←ht,←hcb2];have:eu K.C 2=K.C.body:=rfl;omega
    have d1:decide (t+cb≤now)=true:=decide_eq_true k1;have n1:IntKind.i64.wrap (t+cb)=t+cb:=IntWalk.i64_in _ (by omega);clear hd hd2 hen hate hphe hok hph hcb ha hcl0 hsi hat hC ht hcb2;go_in;go_wp2_with (first
     |(go_at_call 14;refine HDl.out.mono ?_;rintro e w2 ⟨rfl,hs2⟩;obtain⟨q0,q1,q2,q3,q4,q5⟩:=HC.out w2 hs2;have H2:=aa hs2;clear hs2)
     |fail)
    go_quiet (fail);have H2:=aa (H2.out.tt ((Sm.refl No w2).drewN nq));go_wp2_with (first
     |(go_at_call 29;refine(HR.out _ H2.out).mono ?_;rintro e w3 ⟨rfl,hI3⟩;have H3:=aa hI3;clear hI3))
    refine bodyPost_ret (results_none rfl _ _ _) rfl ?_;obtain⟨D',hI,hG⟩:=H3.out;exact⟨rfl,D',hI,(aZ.no D (HI.out.2.tt H2.out)).trans hG⟩
  ·have p1:ph≠1:=fun e=>hr (Or.inl e);have p2:ph≠2:=fun e=>hr (Or.inr e);rw [if_neg p1,if_neg p2] at hd;have b1:(ph==1)=false:=by simpa using p1
   have b2:(ph==2)=false:=by simpa using p2
   have HD:=aa (fun (W:World) (hs:Sm No (w.alloc (.cells #[.pointer (some ⟨c,0,none⟩)] 30)) W)=>IB (f:=fun s=> {s with closed:=true}) (HI.out.1.no hs) hK Iz (fun W2 hW=>Ih ((HI.out.1.no hs).no hW) (((Bk.new w _ _).sm hs (fun e=>e)).sm hW (fun e=>e))) hd);clear hd hate hphe hok hph ha hcl0 hsi hat hC hr;go_in;go_wp2_with (first
    |(go_at_call 14;refine HDl.out.mono ?_;rintro e w2 ⟨rfl,hs2⟩;obtain⟨q0,q1,q2,q3,q4,q5⟩:=HC.out w2 hs2;have H2:=aa hs2;clear hs2)
    |(go_at_call 37;refine(HD.out _ H2.out).mono ?_;rintro e w3 ⟨rfl,D3,hI3,hG3⟩;have H3:=aa (ab hI3 hG3);clear hI3 hG3))
   go_end0
   exact⟨rfl,D3,H3.out.1,(aZ.no D (HI.out.2.tt H2.out)).trans H3.out.2⟩
theorem Jj(w0 w:World)(D:Nat→Nat→Prop)(c:Nat)(z:Zn)(K:Kn)(s:Cn)(h:aq w0 w D c z K s)(hps:s.ps.length≤100000)(hcl0:s.closed=false)(hr:s.ended=true∨(s.ended=false∧s.ending=false∧s.r.length < K.n)):
 Calls Tryz.prog 22 #[.pointer (some ⟨c,0,none⟩)] w fun e w'=>e=.returned (.tuple #[.bool (IS K s).1,.bool (IS K s).2])∧Sm No w w':=by
 have HL:=aa (fun (W:World) (hs:Sm No w W)=>(h.no hs).qu.elim fun vB e=>e.elim fun vP e=>nu W z.gq vB vP _ _ _ e.1 hps);have HN:=aa (fun (W:World) (hs:Sm No w W)=>(h.no hs).qu.elim fun vB e=>e.elim fun vP e=>iR W z.gq vB vP _ _ _ e.1);have HR:=aa (fun (W:World) (hs:Sm No w W)=>(h.no hs).rg.elim fun gb e=>e.elim fun f e=>e.elim fun M e=>uN W z.gr gb K.n f M s.r e.1 e.2.2.2);have hcl:=h.bk.lt;have HC:=aa (fun (W:World) (hs:Sm No w W)=>show W.cell? ⟨c,0,none⟩=some (.pointer (some ⟨z.gq,0,none⟩))∧W.cell? ⟨c,3,none⟩=some (.int .i64 K.C.pipeline)∧W.cell? ⟨c,18,none⟩=some (.pointer (some ⟨z.gr,0,none⟩))∧W.cell? ⟨c,25,none⟩=some (.bool s.ending)∧W.cell? ⟨c,26,none⟩=some (.bool s.ended) from
  have hb:=h.bk.sm hs (fun e=>e)
  ⟨hb.at 0 rfl,hb.at 3 rfl,hb.at 18 rfl,hb.at 25 rfl,hb.at 26 rfl⟩)
 have c27:=h.bk.at 27 (v:=.bool s.closed) rfl;have hW:IS K s=(!s.ended&&(s.ending||(decide (s.r.length < K.n)&&decide ((s.ps.length:Int) < K.C.pipeline))),!s.b.isEmpty):=by unfold IS;rw [hcl0];rfl
 have hbe:(!s.b.isEmpty)=decide (0 < (s.b.length:Int)):=by cases s.b<;>simp
 rw [hW,hbe];rw [hcl0] at c27;obtain⟨gq,gs,gr,gp,gm⟩:=z;obtain⟨C,T,n⟩:=K;dsimp only at HL HN HR HC hr ⊢;obtain⟨en,he⟩:∃ b,s.ending=b:=⟨_,rfl⟩;obtain⟨ed,hd⟩:∃ b,s.ended=b:=⟨_,rfl⟩;obtain⟨np,hnp⟩:∃ n,s.ps.length=n:=⟨_,rfl⟩;obtain⟨nb,hnb⟩:∃ n,s.b.length=n:=⟨_,rfl⟩;obtain⟨rm,hrm⟩:∃ m,(n:Int)-(s.r.length:Int)=m:=⟨_,rfl⟩;obtain⟨pl,hpl⟩:∃ n,C.pipeline=n:=⟨_,rfl⟩;have hir:decide (s.r.length < n)=decide (0 < rm):=by by_cases e:s.r.length < n<;>simp [e]<;>omega
 have hr2:ed=true∨(ed=false∧en=false∧0 < rm):=by rw [←he,←hd];exact hr.imp (fun e=>e) (fun e=>⟨e.1,e.2.1,by omega⟩)
 rw [he,hd,hnp,hir,hpl,hnb];rw [he,hd,hpl] at HC;rw [hnp] at HL;rw [hnb] at HN;rw [hrm] at HR;clear h he hd hnp hnb hrm hpl hir hr hW hbe hcl0;obtain⟨c0,c3,c18,c25,c26⟩:=HC.out w (Sm.refl _ _);have H0:=aa (HC.out w.drew (Sm.refl _ _).drew);have S0:Sm No w w.drew:=(Sm.refl _ _).drew;rcases hr2 with rfl|⟨rfl,rfl,h1⟩
 ·go_in;go_wp2_with fail;go_quiet (fail);obtain⟨g0,g1,g2,g3,g4⟩:=HC.out _ ((Sm.refl No w).drewN nq);go_wp2_with (first|(go_at_call 15;refine(HN.out _ ((Sm.refl No w).drewN nq)).mono ?_;rintro e w5 ⟨rfl,rfl⟩));go_ret2;exact⟨by simp,(Sm.refl No w).drewN nq⟩
 ·have d1:decide (0 < rm)=true:=decide_eq_true h1;go_in;go_wp2_with fail
  go_region_held3 (fun w'=>w'.cell? ⟨c,0,none⟩=some (.pointer (some ⟨gq,0,none⟩))∧w'.cell? ⟨c,3,none⟩=some (.int .i64 pl)∧w'.cell? ⟨c,18,none⟩=some (.pointer (some ⟨gr,0,none⟩))∧w'.cell? ⟨c,25,none⟩=some (.bool false)∧w'.cell? ⟨c,26,none⟩=some (.bool false)) (first|exact⟨c0,c3,c18,c25,c26⟩|exact H0.out|exact H3|exact H4)
   (first
    |(go_at_call 47;refine(HR.out w.drew S0).mono ?_;rintro e w3 ⟨rfl,hs3⟩;have S3:=S0.tt hs3;have H3:=HC.out w3 S3;clear hs3)
    |(go_at_call 23;refine(HL.out w3 S3).mono ?_;rintro e w4 ⟨v4,rfl,hO4,hs4⟩;obtain⟨A4,c4,rfl, -⟩:=au hO4;have S4:=S3.tt hs4;have H4:=HC.out w4 S4;clear hs4 hO4))
  all_goals
   obtain⟨g0,g1,g2,g3,g4⟩:=H4;go_wp2_with (first|(go_at_call 15;refine(HN.out w4 S4).mono ?_;rintro e w5 ⟨rfl,rfl⟩));go_ret2;exact⟨by simp [h1],S4⟩
theorem Ic(args:Array Value)(W:World):Sem.run Tryz.prog (callFunc 45 args) W=.ok (.enter 45 args) W:=by
 simp [callFunc,go_sem,Tryz.func45];rw [if_neg (by decide+kernel),if_neg (fun h=>absurd (congrArg Option.isNone h) (by decide+kernel))]
theorem Io(l:List Nat)(k:Nat):mD l (k:Int)=l.contains k:=by
 unfold mD
 induction l with
 |nil=>rfl
 |cons a l ih=>
  rw [List.any_cons,List.contains_cons,ih];congr 1;by_cases e:k=a
  ·subst e;simp
  ·have e2:¬((a:Int)=(k:Int)):=by omega
   simp [e,e2]
theorem Ip(l:List Nat)(k:Nat):mD (l.filter fun j=>decide (j≠k))=fun q=>if q=(k:Int) then false else mD l q:=by
 funext q
 unfold mD;by_cases e:q=(k:Int)
 ·rw [if_pos e,List.any_eq_false];intro j hj;have:=(List.mem_filter.1 hj).2;have:j≠k:=by simpa using this
  simp;omega
 ·rw [if_neg e,Bool.eq_iff_iff,List.any_eq_true,List.any_eq_true];constructor
  ·rintro⟨j,hj,hq⟩;exact⟨j,(List.mem_filter.1 hj).1,hq⟩
  ·rintro⟨j,hj,hq⟩;have:(j:Int)=q:=by simpa using hq
   exact⟨j,List.mem_filter.2 ⟨hj,by have:j≠k:=fun h=>e (by omega);simpa using this⟩,hq⟩
theorem IK{ps:List (Nat × Nat)}:∀ (n:Nat),(∀ x∈ps,x.1≤1000000)→∀ x∈(ff ps n).1,x≤1000000:=by
 induction ps with
 |nil=>intro n _ x hx;cases hx
 |cons a ps ih=>
  intro n h x hx;obtain⟨k,l⟩:=a;unfold ff at hx;split at hx
  ·rcases List.mem_cons.1 hx with rfl|hx
   ·exact h _ (List.mem_cons_self ..)
   ·exact ih _ (fun y hy=>h y (List.mem_cons_of_mem _ hy)) x hx
  ·cases hx
theorem IA(s:Cn)(k:Nat):(s.tell k).told=s.told+1:=by unfold Cn.tell;split<;>rfl
theorem Il(l:List Nat):∀ s:Cn,(l.foldl Cn.tell s).told=s.told+l.length:=by
 induction l with
 |nil=>intro s;rfl
 |cons a l ih=>intro s;rw [List.foldl_cons,ih,IA,List.length_cons];omega
theorem If(s:Cn)(k:Nat):(s.tell k).whole≤s.whole+1:=by
 unfold Cn.tell;split
 ·exact Nat.le_succ _
 ·exact Nat.le_refl _
theorem Ia(l:List Nat):∀ s:Cn,(l.foldl Cn.tell s).whole≤s.whole+l.length:=by
 induction l with
 |nil=>intro s;exact Nat.le_refl _
 |cons a l ih=>
  intro s;rw [List.foldl_cons,List.length_cons];have:=ih (s.tell a);have:=If s a;omega
structure Hj (w0 w:World) (D:Nat→Nat→Prop) (c bc:Nat) (z:Zn) (K:Kn) (s:Cn) (wr:World):Prop where
 I:aq w0 wr D c z K s
 G:aZ D w D wr
 cc:wr.cell? ⟨bc,0,none⟩=some (.pointer (some ⟨c,0,none⟩))
 lc:bc < wr.heap.size
theorem Ir{w0 w wr:World}{D:Nat→Nat→Prop}{c bc:Nat}{z:Zn}{K:Kn}{s:Cn}(h:Hj w0 w D c bc z K s wr)(hn:bc≠c):Hj w0 w D c bc z K {s with told:=s.told+1} (wr.setCell ⟨c,33,none⟩ (.int .i64 ((s.told+1:Nat):Int))):=by
 have hs:Sm (fun x=>x=c) wr (wr.setCell ⟨c,33,none⟩ (.int .i64 ((s.told+1:Nat):Int))):=(Sm.refl _ wr).set1 33 _;obtain⟨h1,h2⟩:=h.I.setC hs {s with told:=s.told+1} ((h.I.bk.set 33 _).eq rfl) rfl;exact⟨h1,h.G.trans h2,hs.hold h.lc hn h.cc,Nat.lt_of_lt_of_le h.lc hs.size⟩
theorem Hy{w0 w wr:World}{D:Nat→Nat→Prop}{c bc:Nat}{z:Zn}{K:Kn}{s:Cn}(h:Hj w0 w D c bc z K s wr)(hn:bc≠c):Hj w0 w D c bc z K {s with whole:=s.whole+1} (wr.setCell ⟨c,32,none⟩ (.int .i64 ((s.whole+1:Nat):Int))):=by
 have hs:Sm (fun x=>x=c) wr (wr.setCell ⟨c,32,none⟩ (.int .i64 ((s.whole+1:Nat):Int))):=(Sm.refl _ wr).set1 32 _;obtain⟨h1,h2⟩:=h.I.setC hs {s with whole:=s.whole+1} ((h.I.bk.set 32 _).eq rfl) rfl;exact⟨h1,h.G.trans h2,hs.hold h.lc hn h.cc,Nat.lt_of_lt_of_le h.lc hs.size⟩
theorem Is{w0 w wr w':World}{D:Nat→Nat→Prop}{c bc k:Nat}{z:Zn}{K:Kn}{s:Cn}(h:Hj w0 w D c bc z K s wr)(hn:bc≠z.gm)(hs:Sm (fun x=>x=z.gm) wr w')(hm:dT w' z.gm s.last (fun q=>if q=(k:Int) then false else mD s.words q)):Hj w0 w D c bc z K {s with words:=s.words.filter fun j=>decide (j≠k)} w':=by
 obtain⟨h1,h2⟩:=h.I.setM hs (ws:=s.words.filter fun j=>decide (j≠k)) (by rw [Ip];exact hm);exact⟨h1,h.G.trans h2,hs.hold h.lc hn h.cc,Nat.lt_of_lt_of_le h.lc hs.size⟩
theorem Hx(w0 w:World)(D:Nat→Nat→Prop)(c bc bk:Nat)(z:Zn)(K:Kn)(s:Cn)(n:Int)(h:aq w0 w D c z K s)(hb:Bk w bc 30 #[.pointer (some ⟨c,0,none⟩)])(hk:Bk w bk 3 #[.int .i64 n])(nbc:¬ck D bc)(nbk:¬ck D bk)(hb0:s.b≠[])(hbl:s.b.length≤1000000)(hps:s.ps.length≤100000)(hpn:∀ x∈s.ps,x.2≤1000000)(hkn:∀ x∈s.ps,x.1≤1000000)(htd:s.told≤1000000)(hwh:s.whole≤1000000):
 Calls Tryz.prog 45 #[.pointer (some ⟨bc,0,none⟩),.pointer (some ⟨bk,0,none⟩)] w fun e w'=>e=.returned (.tuple #[])∧∃ D',aq w0 w' D' c z K (s.done n)∧aZ D w D' w':=by
 have HDn:=aa (Ig w.drew (D 2) z.gq s.b s.ps s.last n (h.qu.no (Sm.refl No w).drew) (h.reg.lt 2) hb0 hbl hps hpn);have HC:=aa (fun (W:World) (hs:Sm No w W)=>show W.cell? ⟨bc,0,none⟩=some (.pointer (some ⟨c,0,none⟩))∧W.cell? ⟨bk,0,none⟩=some (.int .i64 n)∧W.cell? ⟨c,0,none⟩=some (.pointer (some ⟨z.gq,0,none⟩)) from⟨(hb.sm hs (fun e=>e)).at 0 rfl,(hk.sm hs (fun e=>e)).at 0 rfl,(h.no hs).bk.at 0 rfl⟩);have HC2:=aa (fun (W:World) (hs:Sm (D 2) w.drew W)=>show W.cell? ⟨bc,0,none⟩=some (.pointer (some ⟨c,0,none⟩))∧W.cell? ⟨bk,0,none⟩=some (.int .i64 n)∧W.cell? ⟨c,0,none⟩=some (.pointer (some ⟨z.gq,0,none⟩)) from
  have hs2:Sm (D 2) w W:=((Sm.refl No w).drew.any (D 2)).tt hs
  ⟨(hb.sm hs2 (fun e=>nbc ⟨2,e⟩)).at 0 rfl,(hk.sm hs2 (fun e=>nbk ⟨2,e⟩)).at 0 rfl,(h.bk.sm hs2 (fun e=>by have:=h.reg.ap _ _ _ h.dc e;omega)).at 0 rfl⟩)
 have k0:=HC.out w (Sm.refl _ _);have k0d:=HC.out w.drew (Sm.refl _ _).drew;have l1:=hb.lt;have l2:=hk.lt;have l3:=h.bk.lt;have hn1:bc≠c:=fun e=>nbc ⟨1,by rw [e];exact h.dc⟩;have hn2:bc≠z.gm:=fun e=>nbc ⟨6,by rw [e];exact h.dm⟩;have hkl:∀ x∈(ff s.ps (pR s.b n)).1,x≤1000000:=IK (pR s.b n) hkn;have hdl:(ff s.ps (pR s.b n)).1.length≤100000:=by have:=Ho s.ps (pR s.b n);omega
 have HT:=aa (fun (w1:World) (hs1:Sm (D 2) w.drew w1) (hq:eU w1 (D 2) z.gq (s.b.drop (pR s.b n)) (ff s.ps (pR s.b n)).2 s.last)=>show Hj w0 w D c bc z K {s with b:=s.b.drop (pR s.b n),ps:=(ff s.ps (pR s.b n)).2,last:=s.last} w1 from by
  have hs2:Sm (D 2) w w1:=((Sm.refl No w).drew.any (D 2)).tt hs1;obtain⟨i1,i2⟩:=h.setQ hs2 hq (fun x e=>Or.inl e) (fun x e=>Nat.lt_of_lt_of_le (h.reg.lt 2 x e) hs2.size) (Nat.le_refl _);have hb1:=hb.sm hs2 (fun e=>nbc ⟨2,e⟩);have hD:rp D 2 (D 2)=D:=by
   funext j x
   exact propext ⟨fun e=>e.elim (fun e=>e.2) (fun e=>by rw [e.1];exact e.2),fun e=>by by_cases hj:j=2;exact Or.inr ⟨hj,by rw [←hj];exact e⟩;exact Or.inl ⟨hj,e⟩⟩
  rw [hD] at i1 i2;exact⟨i1,i2,hb1.at 0 rfl,hb1.lt⟩)
 have hdn:s.done n=(ff s.ps (pR s.b n)).1.foldl Cn.tell {s with b:=s.b.drop (pR s.b n),ps:=(ff s.ps (pR s.b n)).2,last:=s.last}:=rfl;obtain⟨s0,hs0⟩:∃ x,({s with b:=s.b.drop (pR s.b n),ps:=(ff s.ps (pR s.b n)).2,last:=s.last}:Cn)=x:=⟨_,rfl⟩;have htd0:s0.told≤1000000:=by rw [←hs0];exact htd
 have hwh0:s0.whole≤1000000:=by rw [←hs0];exact hwh
 rw [hs0] at HT hdn;obtain⟨ks,hks⟩:∃ x,(ff s.ps (pR s.b n)).1=x:=⟨_,rfl⟩;unfold BI at HDn;rw [hks] at hkl hdl hdn HDn;obtain⟨nk,hnk⟩:∃ x,ks.length=x:=⟨_,rfl⟩;have hnkb:nk≤100000:=by omega
 rw [hnk] at HDn;have hcD:c < w.heap.size:=l3;have hmD:z.gm < w.heap.size:=h.reg.lt 6 _ h.dm;have HRw:=aa (fun (w1:World) (A1:Option Addr) (n1 c1:Nat) (hv:w1.ownsRow w.drew.heap.size 3 1 (.slice A1 n1 c1) nk (Fi ks)) (W:World) (hs:Sm (fun x=>x=c∨x=z.gm) w1 W)=>show ax W A1 (Fi ks) from by
  have h2:=ae hv hs (fun b e e2=>by have h3:=(World.ownsRow.lt hv b e).1;rw [World.size_drew] at h3;rcases e2 with e2|e2<;>omega);obtain⟨_,_,e,hr, -⟩:=au h2;injection e with e;rw [e];exact hr)
 clear hcD hmD;have HI:=aa (ab hkl (ab htd0 (ab hwh0 (ab hdn hnk))));clear h hb hk nbc nbk hb0 hbl hpn htd hwh hkn hps hkl hdl hdn hs0 hks hnk htd0 hwh0;go_in;go_wp2_with fail
 go_region_held3 (fun w'=>w'.cell? ⟨bc,0,none⟩=some (.pointer (some ⟨c,0,none⟩))∧w'.cell? ⟨bk,0,none⟩=some (.int .i64 n)∧w'.cell? ⟨c,0,none⟩=some (.pointer (some ⟨z.gq,0,none⟩))) (first|exact k0|exact k0d|exact k1)
  (first
   |(go_at_call 46;refine HDn.out.mono ?_;rintro e w1 ⟨v,rfl,hv,hq,hs1⟩;obtain⟨A1,c1,rfl,hR1, -, -⟩:=au hv;have k1:=HC2.out w1 hs1;have H1:=aa (ab (HT.out w1 hs1 hq) (fun (W:World) (hs:Sm (fun x=>x=c∨x=z.gm) w1 W)=>show ax W A1 (Fi ks) from HRw.out w1 A1 nk c1 hv W hs));clear hv hq hs1 hR1))
 go_wp2_with fail
 go_loopw [3,11] (fun _ iv wr=>∃ j,j≤nk∧iv=.int .i64 (j:Int)∧Hj w0 w D c bc z K ((ks.take j).foldl Cn.tell s0) wr∧Sm (fun x=>x=c∨x=z.gm) w1 wr) (fun _ iv _=>nk-(intOf iv).toNat)
 case atStart=>exact⟨0,Nat.zero_le _,rfl,H1.out.1,Sm.refl _ _⟩
 case round=>
  obtain⟨j,hj,rfl,hT,hsj⟩:=hrel;by_cases hjl:j < nk
  ·have hjk:j < ks.length:=by rw [HI.out.2.2.2.2];exact hjl
   obtain⟨k,hk⟩:∃ x,ks[j]?=some x:=⟨_,List.getElem?_eq_getElem hjk⟩;have htk:(ks.take (j+1)).foldl Cn.tell s0=((ks.take j).foldl Cn.tell s0).tell k:=by rw [List.take_add_one,hk,Option.toList_some,List.foldl_append];rfl
   have hkb:k≤1000000:=HI.out.1 k (List.mem_of_getElem? hk);have htd:=Il (ks.take j) s0;have hwh:=Ia (ks.take j) s0;rw [List.length_take] at htd hwh;obtain⟨sj,hsje⟩:∃ x,(ks.take j).foldl Cn.tell s0=x:=⟨_,rfl⟩;rw [hsje] at hT htk htd hwh;have htb:sj.told≤1100000:=by have:=HI.out.2.1;omega
   have hwb:sj.whole≤1100000:=by have:=HI.out.2.2.1;omega
   have hnum:(Fi ks)[j]?=some (.int .i64 (k:Int)):=by unfold Fi;rw [List.getElem?_map,hk];rfl
   obtain⟨bb,off,hA1,hbb,r0⟩:=(H1.out.2 wr hsj).at hnum;subst hA1;have hp:(Lit.int .i64 (k:Int)).wf=true:=GD (by omega);have q0:=hT.cc;have ql:=hT.lc;have q1:=hT.I.bk.at 33 (v:=.int .i64 (sj.told:Int)) rfl;have z33:=hT.I.bk.fz 33;have ql2:=hT.I.bk.lt;have n1:IntKind.i64.wrap ((sj.told:Int)+1)=((sj.told+1:Nat):Int):=by rw [show (sj.told:Int)+1=((sj.told+1:Nat):Int) by omega];exact IntWalk.i64_in _ (by omega)
   have HT1:=aa (Ir hT hn1);have HS1:=aa (show Sm (fun x=>x=c∨x=z.gm) w1 (wr.setCell ⟨c,33,none⟩ (.int .i64 ((sj.told+1:Nat):Int))) from hsj.trans ((Sm.refl _ wr).set1 33 _) (fun _ _ e=>Or.inl e));have HK:=aa (ab htk (ab hp hwb));have i1:(j:Int) < (nk:Int):=by omega
   have i2:(0:Int)≤(j:Int):=by omega
   obtain⟨td,htde⟩:∃ x,((sj.told+1:Nat):Int)=x:=⟨_,rfl⟩;rw [htde] at n1 HT1 HS1;obtain⟨t0,ht0⟩:∃ x,(sj.told:Int)=x:=⟨_,rfl⟩;rw [ht0] at q1 n1;clear hT hsj htk hkb htd hwh hsje htb hwb hnum hp hk hjk htde ht0;go_upto_region 4 with fail;obtain⟨w2,hw2⟩:∃ x,wr.setCell ⟨c,33,none⟩ (.int .i64 td)=x:=⟨_,rfl⟩;rw [hw2] at HT1 HS1 ⊢;have g0:=HT1.out.cc;have g1:=HT1.out.lc;have g2:=HT1.out.I.bk.lt;have g3:=HT1.out.I.bk.at 29 (v:=.map (some z.gm)) rfl;have gm0:=HT1.out.I.mp.isMap;have hlk:=HT1.out.I.mp.look (k:Int) HK.out.2.1;dsimp only at hlk;rw [Io] at hlk;clear q0 ql q1 z33 ql2 n1 hw2;by_cases hcw:sj.words.contains k=true
   ·rw [hcw] at hlk;obtain⟨w3,hrun,hm3,hs3⟩:=HT1.out.I.mp.drop (k:Int) HK.out.2.1 0;have HT3:=aa (Is HT1.out hn2 hs3 hm3);have HS3:=aa (HS1.out.trans hs3 (fun _ _ e=>Or.inr e));have HE:=aa (show ({sj with told:=sj.told+1,words:=sj.words.filter fun j=>decide (j≠k)}:Cn)=sj.tell k from by unfold Cn.tell;rw [if_pos hcw]);clear hm3 hs3 hcw;go_wp2_with fail;exact⟨⟨j+1,by omega,by go_num,by rw [HK.out.1,←HE.out];exact HT3.out,HS3.out⟩,by simp [intOf];omega⟩
   ·have hcf:sj.words.contains k=false:=by simpa using hcw
    rw [hcf] at hlk;have g4:=HT1.out.I.bk.at 32 (v:=.int .i64 (sj.whole:Int)) rfl;have g5:=HT1.out.I.bk.fz 32;have n2:IntKind.i64.wrap ((sj.whole:Int)+1)=((sj.whole+1:Nat):Int):=by rw [show (sj.whole:Int)+1=((sj.whole+1:Nat):Int) by omega];exact IntWalk.i64_in _ (by have:=HK.out.2.2;omega)
    have HT3:=aa (Hy HT1.out hn1);have HS3:=aa (show Sm (fun x=>x=c∨x=z.gm) w1 (w2.setCell ⟨c,32,none⟩ (.int .i64 ((sj.whole+1:Nat):Int))) from HS1.out.trans ((Sm.refl _ w2).set1 32 _) (fun _ _ e=>Or.inl e));have HE:=aa (show ({sj with told:=sj.told+1,whole:=sj.whole+1}:Cn)=sj.tell k from by unfold Cn.tell;rw [if_neg hcw]);dsimp only at HT3;obtain⟨wh,hwhe⟩:∃ x,((sj.whole+1:Nat):Int)=x:=⟨_,rfl⟩;rw [hwhe] at n2 HT3 HS3;obtain⟨t1,ht1⟩:∃ x,(sj.whole:Int)=x:=⟨_,rfl⟩;rw [ht1] at g4 n2;clear hcf hcw hwhe ht1 gm0;go_wp2_with fail;exact⟨⟨j+1,by omega,by go_num,by rw [HK.out.1,←HE.out];exact HT3.out,HS3.out⟩,by simp [intOf];omega⟩
  ·obtain rfl:j=nk:=by omega
   have htk:(ks.take j).foldl Cn.tell s0=s.done n:=by rw [HI.out.2.2.2.1,List.take_of_length_le (by rw [HI.out.2.2.2.2];exact Nat.le_refl _)]
   rw [htk] at hT;have HF:=aa hT;clear hT hsj htk;go_wp2_with fail
   go_end0
   exact⟨rfl,D,HF.out.I,HF.out.G⟩
theorem Ib(w0 w:World)(D:Nat→Nat→Prop)(c:Nat)(z:Zn)(K:Kn)(s s':Cn)(n now:Int)(h:aq w0 w D c z K s)(hK:Ed K)(hb0:s.b≠[])(hbl:s.b.length≤1000000)(hps:s.ps.length≤100000)(hpn:∀ x∈s.ps,x.2≤1000000)(hkn:∀ x∈s.ps,x.1≤1000000)(htd:s.told≤1000000)(hwh:s.whole≤1000000)(hcl0:s.closed=false)(hd:Ie K s n now=some s'):
 Calls Tryz.prog 20 #[.pointer (some ⟨c,0,none⟩),.int .i64 n,.int .i64 now] w fun e w'=>e=.returned (.tuple #[])∧∃ D',aq w0 w' D' c z K s'∧aZ D w D' w':=by
 have hs1:Sm No w ((w.alloc (.cells #[.pointer (some ⟨c,0,none⟩)] 30)).alloc (.cells #[.int .i64 n] 3)):=((Sm.refl No w).alloc _).alloc _;have hI1:=h.no hs1;have hcl:=h.bk.lt;have c27:=h.bk.at 27 (v:=.bool s.closed) rfl;rw [hcl0] at c27;have hbc:Bk ((w.alloc (.cells #[.pointer (some ⟨c,0,none⟩)] 30)).alloc (.cells #[.int .i64 n] 3)) w.heap.size 30 #[.pointer (some ⟨c,0,none⟩)]:=(Bk.new w _ _).alloc _;have hbk:Bk ((w.alloc (.cells #[.pointer (some ⟨c,0,none⟩)] 30)).alloc (.cells #[.int .i64 n] 3)) (w.heap.size+1) 3 #[.int .i64 n]:=Bk.newAt (w.alloc _) _ _ (by simp);have hnD:∀ x,w.heap.size≤x→¬ck D x:=fun x hx ⟨k,e⟩=>by have:=h.reg.lt k x e;omega
 unfold Ie ET at hd;rw [hcl0,if_neg (by decide)] at hd;dsimp only at hd
 cases hw:lp K (s.done n) with
 |none=>rw [hw] at hd;cases hd
 |some s2=>
  rw [hw] at hd;dsimp only at hd;injection hd with hd;have HD:=aa (vr w0 _ D c z K s (s.done n) s2 now 45 #[.pointer (some ⟨w.heap.size,0,none⟩),.pointer (some ⟨w.heap.size+1,0,none⟩)] (fun W D1=>aZ D ((w.alloc (.cells #[.pointer (some ⟨c,0,none⟩)] 30)).alloc (.cells #[.int .i64 n] 3)) D1 W) hI1 hK Ic (fun W hW=>by
   refine(Hx w0 W D c _ _ z K s n (hI1.no hW) (hbc.sm hW (fun e=>e)) (hbk.sm hW (fun e=>e)) (hnD _ (Nat.le_refl _)) (hnD _ (Nat.le_succ _)) hb0 hbl hps hpn hkn htd hwh).mono ?_;rintro e w' ⟨rfl,D',hI,hG⟩;exact⟨rfl,D',hI,(aZ.no D hW).trans hG⟩) hw)
  have HS:=aa (ab hs1 hd);clear hI1 hs1 h hbc hbk hd hw hb0 hbl hps hpn hkn htd hwh hnD;go_in;go_wp2_with (first|(go_at_call 37;refine HD.out.mono ?_;rintro e w3 ⟨rfl,D3,w2,D1,hI3,hE,hG3⟩;have H3:=aa (ab hI3 (hE.trans hG3));clear hI3 hE hG3))
  first
   |(go_end0;exact⟨rfl,D3,by rw [←HS.out.2];exact H3.out.1,(aZ.no D HS.out.1).trans H3.out.2⟩)
   |(refine bodyPost_ret (results_none rfl _ _ _) rfl ?_;exact⟨rfl,D3,by rw [←HS.out.2];exact H3.out.1,(aZ.no D HS.out.1).trans H3.out.2⟩)
theorem IE{p:Int}{n:Nat}:IF ⟨eD p,lK,n⟩:=⟨rfl,show (0:Int)≤50∧(50:Int)≤1000000000000 by decide,show (0:Int)≤20∧(20:Int)≤1000000000000 by decide,show (0:Int)≤30∧(30:Int)≤1000000000000 by decide,show (0:Int)≤40∧(40:Int)≤1000000000000 by decide,show (0:Int)≤10∧(10:Int)≤1000000000000 by decide⟩
def JJ(s:Cn):Bool:= !s.closed&&(decide (0 < s.b.length)&&(decide (s.b.length≤1000000)&&(decide (s.ps.length≤100000)&&(s.ps.all (fun x=>decide (x.2≤1000000)&&decide (x.1≤1000000))&&(decide (s.told≤1000000)&&decide (s.whole≤1000000))))))
structure IR (s:Cn):Prop where
 cl:s.closed=false
 ne:s.b≠[]
 b:s.b.length≤1000000
 ps:s.ps.length≤100000
 p1:∀ x∈s.ps,x.2≤1000000
 p2:∀ x∈s.ps,x.1≤1000000
 td:s.told≤1000000
 wh:s.whole≤1000000
theorem I0{s:Cn}(h:JJ s=true):IR s:=by
 simp only [JJ,Bool.and_eq_true,decide_eq_true_eq,Bool.not_eq_true',List.all_eq_true] at h;exact⟨h.1,fun e=>by rw [e] at h;exact absurd h.2.1 (by decide),h.2.2.1,h.2.2.2.1,fun x hx=>(h.2.2.2.2.1 x hx).1,fun x hx=>(h.2.2.2.2.1 x hx).2,h.2.2.2.2.2.1,h.2.2.2.2.2.2⟩
section
variable {w0 w w':World} {D D':Nat→Nat→Prop} {b c:Nat} {z:Zn} {K:Kn} {s s':Cn}
def IN(w0 w:World)(D:Nat→Nat→Prop)(b c:Nat)(z:Zn)(K:Kn)(s':Cn)(e:Ending)(w':World):Prop:=e=.returned (.tuple #[])∧∃ D',eG w0 w' D' b c z K s'∧aZ D w D' w'
theorem eG.goes(h:eG w0 w D b c z K s){F:FuncId}{args:Array Value}(hc:Calls Tryz.prog F args w fun e w'=>e=.returned (.tuple #[])∧∃ D',aq w0 w' D' c z K s'∧aZ D w D' w'):Calls Tryz.prog F args w (IN w0 w D b c z K s'):=by
 refine hc.mono ?_;rintro e w' ⟨rfl,D',hi,hG⟩;exact⟨rfl,D',h.go hi hG,hG⟩
theorem eG.due(h:eG w0 w D b c z K s)(hK:Ed K)(hC:IF K){now:Int}(hok:Hl K s now=true)(hd:Iq K s now=some s'):Calls Tryz.prog 13 #[.pointer (some ⟨c,0,none⟩),.int .i64 now] w (IN w0 w D b c z K s'):=h.goes (Ix w0 w D c z K s s' now h.I hK hC hok hd)
theorem eG.quit(h:eG w0 w D b c z K s)(hK:Ed K){now:Int}(hd:JA K s now=some s'):Calls Tryz.prog 24 #[.pointer (some ⟨c,0,none⟩),.int .i64 now] w (IN w0 w D b c z K s'):=h.goes (Jr w0 w D c z K s s' now h.I hK hd)
theorem eG.endS(h:eG w0 w D b c z K s)(hK:Ed K){now:Int}(hd:JY K s now=some s'):Calls Tryz.prog 26 #[.pointer (some ⟨c,0,none⟩),.int .i64 now] w (IN w0 w D b c z K s'):=h.goes (JF w0 w D c z K s s' now h.I hK hd)
theorem eG.deadline(h:eG w0 w D b c z K s)(hC:IF K)(ha:Hi s=true){x:Int}(hx:s.since+eu K.C s.phase=x):Calls Tryz.prog 14 #[.pointer (some ⟨c,0,none⟩)] w fun e w'=>e=.returned (.tuple #[.int .i64 x,.bool true])∧Sm No w w':=by
 obtain⟨a1,a2,a3⟩:=Hr ha;rw [←hx];exact Hf w0 w D c z K s h.I hC a1 a3 a2
theorem eG.count(h:eG w0 w D b c z K s){t l o:Nat}(h1:s.taken=t)(h2:s.laid=l)(h3:s.whole=o):Calls Tryz.prog 21 #[.pointer (some ⟨c,0,none⟩)] w fun e w'=>e=.returned (.tuple #[.int .i64 (t:Int),.int .i64 (l:Int),.int .i64 (o:Int)])∧Sm No w w':=by
 rw [←h1,←h2,←h3];exact Hz w0 w D c z K s h.I
theorem eG.shut(h:eG w0 w D b c z K s){r:Bool}(hr:decide (s.phase=4)=r):Calls Tryz.prog 25 #[.pointer (some ⟨c,0,none⟩)] w fun e w'=>e=.returned (.bool r)∧Sm No w w':=by
 rw [←hr];exact Jm w0 w D c z K s h.I
theorem eG.room(h:eG w0 w D b c z K s){r:Int}(hr:Iv K s=r):Calls Tryz.prog 27 #[.pointer (some ⟨c,0,none⟩)] w fun e w'=>e=.returned (.int .i64 r)∧Sm No w w':=by
 rw [←hr];exact Im w0 w D c z K s h.I
theorem eG.wants(h:eG w0 w D b c z K s)(hps:s.ps.length≤100000)(hcl0:s.closed=false)(hr:s.ended=true∨(s.ended=false∧s.ending=false∧s.r.length < K.n)){x y:Bool}(h1:(IS K s).1=x)(h2:(IS K s).2=y):
 Calls Tryz.prog 22 #[.pointer (some ⟨c,0,none⟩)] w fun e w'=>e=.returned (.tuple #[.bool x,.bool y])∧Sm No w w':=by
 rw [←h1,←h2];exact Jj w0 w D c z K s h.I hps hcl0 hr
theorem eG.pushNo(h:eG w0 w D b c z K s){A:Option Addr}{n cp:Nat}{now:Int}(hs:(s.ending||(s.ended||s.closed))=true):Calls Tryz.prog 12 #[.pointer (some ⟨c,0,none⟩),.slice A n cp,.int .i64 now] w fun e w'=>e=.returned (.int .i64 (n:Int))∧Sm No w w':=zO w0 w D c z K s h.I A cp n now hs
theorem eG.pushO(h:eG w0 w D b c z K s)(hK:Ed K){B:Nat}{v:Value}{L:ah}(hO:aG w B v L)(hB:∀ k x,D k x→x < B){n:Nat}{now:Int}(hp:rM K s L now=some (s',n))(hl:L.length≤100000):
 Calls Tryz.prog 12 #[.pointer (some ⟨c,0,none⟩),v,.int .i64 now] w fun e w'=>e=.returned (.int .i64 (n:Int))∧∃ D',eG w0 w' D' b c z K s'∧aZ D w D' w':=by
 obtain⟨A,cp,rfl,hR,hcp,hn⟩:=hO.slice;have hcp2:cp≤9223372036854775807:=by
  rcases hO.2 with ⟨e, -⟩|⟨g,cap,cur,e, -, -, -,hm, -⟩
  ·injection e with _ _ e3;rw [e3];exact Nat.zero_le _
  ·injection e with _ _ e3;rw [e3];exact hm
 refine(ut w0 w D c z K s s' n A cp L now h.I hK hp hR (fun a e _ e2=> ?_) (fun e=>⟨by have:=hn e;omega,hn e⟩) hl hcp hcp2).mono ?_
 ·obtain⟨k,e2⟩:=e2;have h1:=hB k _ e2;have h2:=(World.ownsRow.lt hO a.block (by rw [e];rfl)).1;omega
 ·rintro e w' ⟨rfl,D',hi,hG⟩;exact⟨rfl,D',h.go hi hG,hG⟩
theorem eG.wrote(h:eG w0 w D b c z K s)(hK:Ed K)(hf:IR s){n now:Int}(hd:Ie K s n now=some s'):Calls Tryz.prog 20 #[.pointer (some ⟨c,0,none⟩),.int .i64 n,.int .i64 now] w (IN w0 w D b c z K s'):=h.goes (Ib w0 w D c z K s s' n now h.I hK hf.ne hf.b hf.ps hf.p1 hf.p2 hf.td hf.wh hf.cl hd)
end
end Go.Proofs.YtadcjgopaadfjaaGreatDoor
