import Derived.Test.YtcflkcbogofgbaaGreatDoorQRQ
import Derived.Test.YtcflkcbogofgbaaGreatDoorQPH
import Derived.Test.YtcflkcbogofgbaaGreatDoorQOR
import Derived.Test.YtcflkcbogofgbaaGreatDoorQM
set_option maxHeartbeats 16000000
set_option maxRecDepth 100000
namespace Go.Proofs.YtcflkcbogofgbaaGreatDoor
open Go.RowKit Go.Proofs
def rd(w:World)(B t:Nat)(T:List bE)(qs:List gJ)(st:Int):Prop:=
 ∃ (s:Nat) (vR:Value) (O R:Nat→Prop),Bk w t 57 #[.pointer (some ⟨s,0,none⟩),vR,.int .i64 st]∧gI w O s T∧gz w B R vR qs
theorem BL(w:World)(B t:Nat)(T:List bE)(qs:List gJ)(st:Int)(h:rd w B t T qs st)(hl:qs.length≤1000000):
 Calls Tryz.prog 23 #[.pointer (some ⟨t,0,none⟩)] w fun e w'=>e=.returned (.int .i64 ((qs.length+if st=0 then 0 else 1:Nat):Int))∧w=w':=by
 obtain⟨s,vR,O,R,hb, -,hq⟩:=h;obtain⟨A,c,rfl, -⟩:=ak hq.1;have d1:=hb.at 1 rfl;have d2:=hb.at 2 rfl;have dl:=hb.lt;by_cases h0:st=0
 ·subst h0;go_in;go_wp2_with fail;go_ret;exact⟨by simp,rfl⟩
 ·have e0:(st==0)=false:=by simp [h0]
  have e1:(st != 0)=true:=by simp [h0]
  have HE:(if st=0 then 0 else 1:Nat)=1:=if_neg h0;rw [HE];clear h0 HE;go_in;go_wp2_with fail;go_ret;refine⟨?_,rfl⟩;simp
theorem zu(w:World)(hg:G1 w)(B t:Nat)(T:List bE)(qs:List gJ)(st:Int)(h:rd w B t T qs st)(hst:200≤st∧st≤599)(quit:Bool):
 Calls Tryz.prog 24 #[.pointer (some ⟨t,0,none⟩),.int .i64 (qs.length:Int),.bool quit] w fun e w'=>∃ v,e=.returned v∧ay w' w.heap.size v (uN st)∧Sm No w w':=by
 obtain⟨s,vR,O,R,hb, -,hq⟩:=h;obtain⟨A,c,rfl, -⟩:=ak hq.1;have d1:=hb.at 1 rfl;have d2:=hb.at 2 rfl;have dl:=hb.lt;have HC:=ns (El w hg st hst);clear hb hq hg;go_in;go_wp2_with fail;refine HC.out.mono ?_;rintro e w2 ⟨v,rfl,hO,hs⟩;have HF:=ns (BT hO hs);clear hO hs;go_wp2_with fail;go_ret;exact⟨_,rfl,HF.out.1,HF.out.2⟩
theorem oW{qs:List gJ}{k:Nat}{q:gJ}(h:qs[k]?=some q){j:Nat}{v:Value}(hj:q.cells[j]?=some v):(dw qs)[k * 10+j]?=some v:=by
 induction qs generalizing k with
 |nil=>simp at h
 |cons y l ih=>
  have hj10:j < 10:=(List.getElem?_eq_some_iff.1 hj).1
  cases k with
  |zero=>
   simp at h;subst h;show (y.cells++dw l)[0 * 10+j]?=some v;rw [List.getElem?_append_left (by show 0 * 10+j < 10;omega),Nat.zero_mul,Nat.zero_add];exact hj
  |succ k=>
   show (y.cells++dw l)[(k+1) * 10+j]?=some v;rw [List.getElem?_append_right (by show 10≤_;omega),show (k+1) * 10+j-y.cells.length=k * 10+j from by show _-10=_;omega];exact ih (by simpa using h)
theorem Dd{w:World}{R:Nat→Prop}{q:gJ}(h:q.In w R)(ho:bI (.whole q.x.1 q.x.2))(hz:hY (.whole q.x.1 q.x.2)):Hj w (oC q.x) q.a1 q.c1 q.a2 q.c2:=by
 refine⟨h.r1,h.n1,h.r2,h.n2,?_,?_,?_,?_,?_,?_⟩
 ·show q.x.1.method.toArray.size≤30000;rw [List.size_toArray];have:=hz.1;omega
 ·show q.x.1.target.path.toArray.size≤30000;rw [List.size_toArray];have:=hz.2.1;omega
 ·show q.x.1.target.query.toArray.size≤30000;rw [List.size_toArray];have:=hz.2.2;omega
 ·intro x hx;have h1:=rc (l:=q.x.1.fields) hx;have h2:=ho.1.ok.light.size;omega
 ·show q.x.1.fields.length≤30000;have:=ho.1.ok.len;omega
 ·show q.x.2.length≤30000;have:=ho.2;omega
theorem ar.in{w:World}{bb off:Nat}{cs:List Value}(h:ar w (some ⟨bb,off,none⟩) cs){j:Nat}{u:Value}(hj:cs[j]?=some u):w.cell? ⟨bb,off+j,none⟩=some u:=by
 obtain⟨b2,o2,e,_,hc⟩:=h j u hj;injection e with e;injection e with e1 e2;subst e1 e2;exact hc
theorem C8{w:World}{A:Option Addr}{qs:List gJ}{i:Nat}{q:gJ}(h:ar w A (dw qs))(hi:qs[i]?=some q):∃ bb off,A=some ⟨bb,off,none⟩∧bb < w.heap.size∧
 ∀ j v,[.string (oC q.x).m,.int .i64 (oC q.x).form,.string (oC q.x).host,.string (oC q.x).path,.string (oC q.x).query,.int .i64 (oC q.x).minor,.slice q.a1 (oC q.x).fs.length q.c1,.slice q.a2 (oC q.x).body.length q.c2,.bool (oC q.x).close,.bool (oC q.x).expect][j]?=some v→w.cell? ⟨bb,off+i * 10+j,none⟩=some v:=by
 obtain⟨bb,off,rfl,hb,_⟩:=h.at (oW hi (j:=0) rfl);exact⟨bb,off,rfl,hb,fun j v hj=>by rw [Nat.add_assoc];exact h.in (oW hi (show q.cells[j]?=some v from hj))⟩
set_option linter.unusedSimpArgs false in
theorem yL(w:World)(hg:G1 w)(B t:Nat)(T:List bE)(qs:List gJ)(st:Int)(h:rd w B t T qs st)(hT:dJ T=0)(hsm:lZ T)(hpl:∀ x∈T,Lib.hasPrefix (ab x.type) jz=false)(i:Nat)(q:gJ)(hi:qs[i]?=some q)(ho:bI (.whole q.x.1 q.x.2))(hz:hY (.whole q.x.1 q.x.2))(quit:Bool):
 Calls Tryz.prog 24 #[.pointer (some ⟨t,0,none⟩),.int .i64 (i:Int),.bool quit] w fun e w'=>∃ v,e=.returned v∧ay w' w.heap.size v (BA T quit q.x)∧Sm No w w':=by
 obtain⟨s,vR,O,R,hb,hS,hq⟩:=h;have hrq:=Dd (hq.ok q (List.mem_of_getElem? hi)) ho hz;have hnt:iP (cZ T (oC q.x)):=qE hT ho;have hpa:=sV hpl (oC q.x);have hmi: -1000000≤(oC q.x).minor∧(oC q.x).minor≤1000000:=by
  have:(oC q.x).minor=q.x.1.minor:=rfl;rcases ho.1.ok.minor with e|e<;>omega
 obtain⟨A,c,rfl,hrow, -⟩:=ak hq.own;obtain⟨bb,off,rfl,hbb,hc⟩:=C8 hrow hi;have hlt:i < qs.length:=(List.getElem?_eq_some_iff.1 hi).1;have hans:BA T quit q.x=gQ (cZ T (oC q.x)) (ab (oC q.x).m==fW) (oC q.x).minor ((oC q.x).close||quit):=by
  unfold BA;rw [show ab (oC q.x).m=q.x.1.method from jX _];rfl
 rw [hans];clear hans;obtain⟨a1,c1,a2,c2,ha⟩:∃ a1 c1 a2 c2,q.a1=a1∧q.c1=c1∧q.a2=a2∧q.c2=c2:=⟨_,_,_,_,rfl,rfl,rfl,rfl⟩;rw [ha.1,ha.2.1,ha.2.2.1,ha.2.2.2] at hrq hc;obtain⟨Q,hQ⟩:=Iu (oC q.x);rw [hQ] at hrq hnt hpa hmi hc ⊢;clear ha hQ;obtain⟨m,form,host,path,query,minor,fs,body,close,expect⟩:=Q;dsimp only at hmi hc ⊢;have r0:w.cell? ⟨bb,off+i * 10,none⟩=_:=hc 0 _ rfl;have r1:=hc 1 _ rfl;have r2:=hc 2 _ rfl;have r3:=hc 3 _ rfl;have r4:=hc 4 _ rfl;have r5:=hc 5 _ rfl;have r6:=hc 6 _ rfl;have r7:=hc 7 _ rfl;have r8:=hc 8 _ rfl;have r9:=hc 9 _ rfl;have d0:=hb.at 0 (v:=.pointer (some ⟨s,0,none⟩)) rfl;have d1:=hb.at 1 (v:=.slice (some ⟨bb,off,none⟩) qs.length c) rfl;have dl:=hb.lt;have k1:(0:Int)≤(i:Int):=by omega
 have k2:(i:Int) < (qs.length:Int):=by omega
 obtain⟨nq,hnq⟩:∃ n,qs.length=n:=⟨_,rfl⟩;rw [hnq] at k2 d1;have HH:=ns (BT hS (BT hrq (BT hnt (BT hpa (BT hmi (BT hsm (BT hg (DQ hT))))))));clear hc hb hq hS hrq hnt hpa hmi hsm hrow hi hg hnq ho hz hlt hT hpl;obtain⟨hdB,hhd⟩:∃ b,(ab m==fW)=b:=⟨_,rfl⟩;rw [hhd];have hd1:(m.toList==[72,69,65,68])=hdB:=by rw [←hhd,ByteArray.toList_eq];rfl
 clear hhd;obtain⟨R,hR⟩:=Iu (cZ T ⟨m,form,host,path,query,minor,fs,body,close,expect⟩);rw [hR];have HR:=ns hR;clear hR;go_in;go_upto_region 4 with fail;obtain⟨nf,hnf⟩:∃ n,fs.length=n:=⟨_,rfl⟩;obtain⟨nb,hnb⟩:∃ n,body.length=n:=⟨_,rfl⟩;obtain⟨b7,hb7⟩:=Iu w.heap.size;rw [hnf,hnb];obtain⟨w7,hw7⟩:∃ w7,w.alloc (.cells #[.string m,.int .i64 form,.string host,.string path,.string query,.int .i64 minor,.slice a1 nf c1,.slice a2 nb c2,.bool close,.bool expect] 62)=w7:=⟨_,rfl⟩;have hs7:Sm No w w7:=by rw [←hw7];exact(Sm.refl No w).alloc _
 have hq7:Bk w7 b7 62 #[.string m,.int .i64 form,.string host,.string path,.string query,.int .i64 minor,.slice a1 nf c1,.slice a2 nb c2,.bool close,.bool expect]:=by rw [←hw7,←hb7];exact Bk.new w _ _
 rw [hb7,hw7];have HC:=ns (fun (W:World) (h:Sm No w7 W)=>show W.cell? ⟨t,0,none⟩=some (.pointer (some ⟨s,0,none⟩))∧W.cell? ⟨b7,0,none⟩=some (.string m)∧W.cell? ⟨b7,1,none⟩=some (.int .i64 form)∧W.cell? ⟨b7,2,none⟩=some (.string host)∧W.cell? ⟨b7,3,none⟩=some (.string path)∧W.cell? ⟨b7,4,none⟩=some (.string query)∧W.cell? ⟨b7,5,none⟩=some (.int .i64 minor)∧W.cell? ⟨b7,6,none⟩=some (.slice a1 nf c1)∧W.cell? ⟨b7,7,none⟩=some (.slice a2 nb c2)∧W.cell? ⟨b7,8,none⟩=some (.bool close)∧W.cell? ⟨b7,9,none⟩=some (.bool expect) from
  have q:=hq7.sm h (fun e=>e)
  ⟨(hs7.tt h).cell dl d0,q.at 0 rfl,q.at 1 rfl,q.at 2 rfl,q.at 3 rfl,q.at 4 rfl,q.at 5 rfl,q.at 6 rfl,q.at 7 rfl,q.at 8 rfl,q.at 9 rfl⟩)
 have H7:=ns hs7;have HSv:=ns (wT w7.drew (HH.out.2.2.2.2.2.2.1.no hs7.drew) O s T (HH.out.1.no hs7.drew) HH.out.2.2.2.2.2.2.2 HH.out.2.2.2.2.2.1 ⟨m,form,host,path,query,minor,fs,body,close,expect⟩ a1 c1 a2 c2 ⟨HH.out.2.1.1.no hs7.drew,HH.out.2.1.2.1,HH.out.2.1.2.2.1.no hs7.drew,HH.out.2.1.2.2.2⟩);unfold FV at HSv;dsimp only at HSv;rw [hnf,hnb] at HSv;have HE:=ns (fun (W:World) (v:Value) (hS:Sm No w7.drew W) (hR:jq W w7.drew.heap.size v (cZ T ⟨m,form,host,path,query,minor,fs,body,close,expect⟩)) hd cl=>xV (HH.out.2.2.2.2.2.2.1.no (hs7.drew.tt hS)) hR HH.out.2.2.1 HH.out.2.2.2.1 hd cl minor HH.out.2.2.2.2.1);have k7:=HC.out _ (Sm.refl No w7);have k7d:=HC.out _ (Sm.refl No w7).drew;have kl7:=hq7.lt;have ktl:t < w7.heap.size:=Nat.lt_of_lt_of_le dl hs7.size;have HB:=ns (show w.heap.size=b7 from hb7);rw [HR.out] at HSv HE;have hz7:w.heap.size≤w7.heap.size:=hs7.size;have HZ:=ns hz7;clear hs7 hw7 hb7 hq7 hnf hnb HH HR r0 r1 r2 r3 r4 r5 r6 r7 r8 r9 d0 d1 hz7
 cases close with
 |false=>
  go_region_held3 (fun w'=>w'.cell? ⟨t,0,none⟩=some (.pointer (some ⟨s,0,none⟩))∧w'.cell? ⟨b7,0,none⟩=some (.string m)∧w'.cell? ⟨b7,1,none⟩=some (.int .i64 form)∧w'.cell? ⟨b7,2,none⟩=some (.string host)∧w'.cell? ⟨b7,3,none⟩=some (.string path)∧w'.cell? ⟨b7,4,none⟩=some (.string query)∧w'.cell? ⟨b7,5,none⟩=some (.int .i64 minor)∧w'.cell? ⟨b7,6,none⟩=some (.slice a1 nf c1)∧w'.cell? ⟨b7,7,none⟩=some (.slice a2 nb c2)∧w'.cell? ⟨b7,8,none⟩=some (.bool false)∧w'.cell? ⟨b7,9,none⟩=some (.bool expect)) (first|with_reducible exact k7d|with_reducible exact k7|with_reducible exact k8|with_reducible exact k9)
   (first
    |(go_at_call 39;refine HSv.out.mono ?_;rintro e w8 ⟨v8,rfl,hR8,hs8⟩;have k8:=HC.out _ ((Sm.refl No w7).drew.tt hs8);have HR8:=ns (BT hR8 hs8);clear hR8 hs8)
    |(go_at_call 38;refine(HE.out _ _ HR8.out.2 HR8.out.1 _ _).mono ?_;rintro e w9 ⟨v9,rfl,hO9,hs9⟩;have k9:=HC.out _ (((Sm.refl No w7).drew.tt HR8.out.2).tt hs9);have HS9:=ns (BT hO9 (((Sm.refl No w7).drew.tt HR8.out.2).tt hs9));have HSW:=ns HR8.out.2.size;clear hO9 hs9))
  all_goals
   go_wp2_with fail;go_ret;exact⟨_,rfl,gT HS9.out.1 (Nat.le_trans HZ.out HSW.out),(H7.out.tt HS9.out.2)⟩
 |true=>
  refine wp_region_noPanic ?_;refine wp_region_held_drew (S:=fun w'=>w'.cell? ⟨t,0,none⟩=some (.pointer (some ⟨s,0,none⟩))∧w'.cell? ⟨b7,0,none⟩=some (.string m)∧w'.cell? ⟨b7,1,none⟩=some (.int .i64 form)∧w'.cell? ⟨b7,2,none⟩=some (.string host)∧w'.cell? ⟨b7,3,none⟩=some (.string path)∧w'.cell? ⟨b7,4,none⟩=some (.string query)∧w'.cell? ⟨b7,5,none⟩=some (.int .i64 minor)∧w'.cell? ⟨b7,6,none⟩=some (.slice a1 nf c1)∧w'.cell? ⟨b7,7,none⟩=some (.slice a2 nb c2)∧w'.cell? ⟨b7,8,none⟩=some (.bool true)∧w'.cell? ⟨b7,9,none⟩=some (.bool expect)) (by kernel_rfl) k7d (fun hHeld=> ?_);refine' wpAnyH_take (i:=0) (oi:=_) (v:=_) rfl (by kernel_rfl) (by kernel_rfl) (by kernel_rfl) (fun _ _ _ h=>h) (Or.inl ⟨by rfl,?hy0⟩) (by assumption) ?rt0
  case hy0=>(intro w hSw;clear hSw;go_simp;try(with_reducible rfl))
  try simp only [Act.put,List.setIfInBounds_toArray,List.set_cons_zero,List.set_cons_succ]
  refine' wpAnyH_take (i:=1) (oi:=_) (v:=_) rfl (by kernel_rfl) (by kernel_rfl) (by kernel_rfl) (fun _ _ _ h=>h) (Or.inl ⟨by rfl,?hy1⟩) (by assumption) ?rt1
  case hy1=>(intro w hSw;clear hSw;go_simp;try(with_reducible rfl))
  try simp only [Act.put,List.setIfInBounds_toArray,List.set_cons_zero,List.set_cons_succ]
  refine' wpAnyH_take (i:=2) (oi:=_) (v:=_) rfl (by kernel_rfl) (by kernel_rfl) (by kernel_rfl) (fun _ _ _ h=>h) (Or.inl ⟨by rfl,?hy2⟩) (by assumption) ?rt2
  case hy2=>(intro w hSw;clear hSw;go_simp;try(with_reducible rfl))
  try simp only [Act.put,List.setIfInBounds_toArray,List.set_cons_zero,List.set_cons_succ]
  refine' wpAnyH_take (i:=3) (oi:=_) (v:=_) rfl (by kernel_rfl) (by kernel_rfl) (by kernel_rfl) (fun _ _ _ h=>h) (Or.inl ⟨by rfl,?hy3⟩) (by assumption) ?rt3
  case hy3=>(intro w hSw;(try dsimp only at hSw);go_simp;try(with_reducible rfl))
  try simp only [Act.put,List.setIfInBounds_toArray,List.set_cons_zero,List.set_cons_succ]
  refine' wpAnyH_take (i:=4) (oi:=_) (v:=_) rfl (by kernel_rfl) (by kernel_rfl) (by kernel_rfl) (fun _ _ _ h=>h) (Or.inl ⟨by rfl,?hy4⟩) (by assumption) ?rt4
  case hy4=>(intro w hSw;(try dsimp only at hSw);go_simp;try(with_reducible rfl))
  try simp only [Act.put,List.setIfInBounds_toArray,List.set_cons_zero,List.set_cons_succ]
  refine' wpAnyH_take (i:=6) (oi:=_) (v:=_) rfl (by kernel_rfl) (by kernel_rfl) (by kernel_rfl) (fun _ _ _ h=>h) (Or.inl ⟨by rfl,?hy6⟩) (by assumption) ?rt6
  case hy6=>(intro w hSw;clear hSw;go_simp;try(with_reducible rfl))
  try simp only [Act.put,List.setIfInBounds_toArray,List.set_cons_zero,List.set_cons_succ]
  refine' wpAnyH_take (i:=7) (oi:=_) (v:=_) rfl (by kernel_rfl) (by kernel_rfl) (by kernel_rfl) (fun _ _ _ h=>h) (Or.inl ⟨by rfl,?hy7⟩) (by assumption) ?rt7
  case hy7=>(intro w hSw;(try dsimp only at hSw);go_simp;try(with_reducible rfl))
  try simp only [Act.put,List.setIfInBounds_toArray,List.set_cons_zero,List.set_cons_succ]
  refine' wpAnyH_take (i:=8) (oi:=_) (v:=_) rfl (by kernel_rfl) (by kernel_rfl) (by kernel_rfl) (fun _ _ _ h=>h) (Or.inl ⟨by rfl,?hy8⟩) (by assumption) ?rt8
  case hy8=>(intro w hSw;clear hSw;go_simp;try(with_reducible rfl))
  try simp only [Act.put,List.setIfInBounds_toArray,List.set_cons_zero,List.set_cons_succ]
  refine' wpAnyH_take (i:=9) (oi:=_) (v:=_) rfl (by kernel_rfl) (by kernel_rfl) (by kernel_rfl) (fun _ _ _ h=>h) (Or.inl ⟨by rfl,?hy9⟩) (by assumption) ?rt9
  case hy9=>(intro w hSw;clear hSw;go_simp;try(with_reducible rfl))
  try simp only [Act.put,List.setIfInBounds_toArray,List.set_cons_zero,List.set_cons_succ]
  refine' wpAnyH_take (i:=10) (oi:=_) (v:=_) rfl (by kernel_rfl) (by kernel_rfl) (by kernel_rfl) (fun _ _ _ h=>h) (Or.inl ⟨by rfl,?hy10⟩) (by assumption) ?rt10
  case hy10=>(intro w hSw;(try dsimp only at hSw);go_simp;try(with_reducible rfl))
  try simp only [Act.put,List.setIfInBounds_toArray,List.set_cons_zero,List.set_cons_succ]
  refine' wpAnyH_take (i:=11) (oi:=_) (v:=_) rfl (by kernel_rfl) (by kernel_rfl) (by kernel_rfl) (fun _ _ _ h=>h) (Or.inl ⟨by rfl,?hy11⟩) (by assumption) ?rt11
  case hy11=>(intro w hSw;clear hSw;go_simp;try(with_reducible rfl))
  try simp only [Act.put,List.setIfInBounds_toArray,List.set_cons_zero,List.set_cons_succ]
  refine' wpAnyH_take (i:=12) (oi:=_) (v:=_) rfl (by kernel_rfl) (by kernel_rfl) (by kernel_rfl) (fun _ _ _ h=>h) (Or.inl ⟨by rfl,?hy12⟩) (by assumption) ?rt12
  case hy12=>(intro w hSw;(try dsimp only at hSw);go_simp;try(with_reducible rfl))
  try simp only [Act.put,List.setIfInBounds_toArray,List.set_cons_zero,List.set_cons_succ]
  refine wpAnyH_ready (rs:=[5]) (by kernel_rfl) (by simp) ?_;refine AllReadyH.cons (o:=_) rfl (fun K hK=> ?_) AllReadyH.nil;go_simp;refine HSv.out.mono ?_;rintro e w8 ⟨v8,rfl,hR8,hs8⟩;have k8:=HC.out _ ((Sm.refl No w7).drew.tt hs8);have HR8:=ns (BT hR8 hs8);clear hR8 hs8;go_wp2_with fail;refine hK.out _ _ k8 (fun _=> ?_);clear hK;refine' wpAnyH_take (i:=13) (oi:=_) (v:=_) rfl (by kernel_rfl) (by kernel_rfl) (by kernel_rfl) (fun _ _ _ h=>h) (Or.inl ⟨by rfl,?hy13⟩) (by assumption) ?rt13
  case hy13=>(intro w hSw;clear hSw;go_simp;try(with_reducible rfl))
  try simp only [Act.put,List.setIfInBounds_toArray,List.set_cons_zero,List.set_cons_succ]
  refine' wpAnyH_take (i:=14) (oi:=_) (v:=undef) rfl (by kernel_rfl) (by kernel_rfl) (by kernel_rfl) (fun _ _ _ h=>h) (Or.inr ⟨?w14,rfl⟩) (by assumption) ?rt14
  case w14=>kernel_rfl
  try simp only [Act.put,List.setIfInBounds_toArray,List.set_cons_zero,List.set_cons_succ]
  refine' wpAnyH_take (i:=15) (oi:=_) (v:=_) rfl (by kernel_rfl) (by kernel_rfl) (by kernel_rfl) (fun _ _ _ h=>h) (Or.inl ⟨by rfl,?hy15⟩) (by assumption) ?rt15
  case hy15=>(intro w hSw;clear hSw;go_simp;try(with_reducible rfl))
  try simp only [Act.put,List.setIfInBounds_toArray,List.set_cons_zero,List.set_cons_succ]
  refine wpAnyH_ready (rs:=[16]) (by kernel_rfl) (by simp) ?_;refine AllReadyH.cons (o:=_) rfl (fun K hK=> ?_) AllReadyH.nil;go_simp;refine(HE.out _ _ HR8.out.2 HR8.out.1 _ _).mono ?_;rintro e w9 ⟨v9,rfl,hO9,hs9⟩;have k9:=HC.out _ (((Sm.refl No w7).drew.tt HR8.out.2).tt hs9);have HS9:=ns (BT hO9 (((Sm.refl No w7).drew.tt HR8.out.2).tt hs9));have HSW:=ns HR8.out.2.size;clear hO9 hs9;go_wp2_with fail;refine hK.out _ _ k9 (fun _=> ?_);clear hK;refine' wpAnyH_take (i:=17) (oi:=_) (v:=_) rfl (by kernel_rfl) (by kernel_rfl) (by kernel_rfl) (fun _ _ _ h=>h) (Or.inl ⟨by rfl,?hy17⟩) (by assumption) ?rt17
  case hy17=>(intro w hSw;clear hSw;go_simp;try(with_reducible rfl))
  try simp only [Act.put,List.setIfInBounds_toArray,List.set_cons_zero,List.set_cons_succ]
  refine' wpAnyH_take (i:=18) (oi:=_) (v:=_) rfl (by kernel_rfl) (by kernel_rfl) (by kernel_rfl) (fun _ _ _ h=>h) (Or.inl ⟨by rfl,?hy18⟩) (by assumption) ?rt18
  case hy18=>(intro w hSw;clear hSw;go_simp;try(with_reducible rfl))
  try simp only [Act.put,List.setIfInBounds_toArray,List.set_cons_zero,List.set_cons_succ]
  refine' wpAnyH_take (i:=19) (oi:=_) (v:=_) rfl (by kernel_rfl) (by kernel_rfl) (by kernel_rfl) (fun _ _ _ h=>h) (Or.inl ⟨by rfl,?hy19⟩) (by assumption) ?rt19
  case hy19=>(intro w hSw;clear hSw;go_simp;try(with_reducible rfl))
  try simp only [Act.put,List.setIfInBounds_toArray,List.set_cons_zero,List.set_cons_succ]
  refine' wpAnyH_take (i:=20) (oi:=_) (v:=_) rfl (by kernel_rfl) (by kernel_rfl) (by kernel_rfl) (fun _ _ _ h=>h) (Or.inl ⟨by rfl,?hy20⟩) (by assumption) ?rt20
  case hy20=>(intro w hSw;clear hSw;go_simp;try(with_reducible rfl))
  try simp only [Act.put,List.setIfInBounds_toArray,List.set_cons_zero,List.set_cons_succ]
  refine' wpAnyH_take (i:=21) (oi:=_) (v:=_) rfl (by kernel_rfl) (by kernel_rfl) (by kernel_rfl) (fun _ _ _ h=>h) (Or.inl ⟨by rfl,?hy21⟩) (by assumption) ?rt21
  case hy21=>(intro w hSw;clear hSw;go_simp;try(with_reducible rfl))
  try simp only [Act.put,List.setIfInBounds_toArray,List.set_cons_zero,List.set_cons_succ]
  refine wpAnyH_done (by kernel_rfl) ?_ _;refine NoPanic.normal ?_;go_wp2_with fail;go_ret;exact⟨_,rfl,gT HS9.out.1 (Nat.le_trans HZ.out HSW.out),(H7.out.tt HS9.out.2)⟩
structure mL where
 t:af
 a:Option Addr
 c:Nat
def mL.cell(m:mL):Value:=.slice m.a m.t.length m.c
structure mL.In (w:World) (R:Nat→Prop) (m:mL):Prop where
 r:ar w m.a (bC m.t)
 n:m.a=none→m.t.length=0∧m.c=0
 le:m.t.length≤m.c
 b:∀ a,m.a=some a→m.t≠[]→R a.block
theorem mL.In.sm{w w':World}{R S:Nat→Prop}{m:mL}(h:m.In w R)(hs:Sm S w w')(hS:∀ x,R x→¬S x):m.In w' R:=by
 refine⟨?_,h.n,h.le,h.b⟩;by_cases h0:m.t=[]
 ·rw [h0];exact ar.nil _ _
 ·exact h.r.sm hs (fun a e=>hS _ (h.b a e h0))
theorem mL.In.imp{w:World}{R P:Nat→Prop}{m:mL}(h:m.In w R)(hi:∀ x,R x→P x):m.In w P:=⟨h.r,h.n,h.le,fun a e h0=>hi _ (h.b a e h0)⟩
theorem ay.an{w:World}{B:Nat}{v:Value}{l:af}(h:ay w B v l):∃ m:mL,m.t=l∧v=m.cell∧m.In w (fun x=>v.ownBlock=some x):=by
 rcases aR h with ⟨rfl,h1,h2⟩|⟨g,cap,rfl,hb, -,hlt,hc,hx, -⟩
 ·refine⟨⟨l,none,0⟩,rfl,by unfold mL.cell;rw [h1],⟨fun j u hj=> ?_,fun _=>⟨h1,rfl⟩,by show l.length≤0;omega,fun a e=>by cases e⟩⟩;rw [List.eq_nil_of_length_eq_zero h1] at hj
  cases hj
 ·refine⟨⟨l,some ⟨g,0,none⟩,cap⟩,rfl,rfl,⟨fun j u hj=>⟨g,0,rfl,hlt,?_⟩,(fun e=>by cases e),hc,fun a e _=>by injection e with e;rw [←e];exact hb⟩⟩;have:=hx j u hj
  rwa [Nat.zero_add]
structure sH (w:World) (B:Nat) (R:Nat→Prop) (v:Value) (ms:List mL):Prop where
 own:w.ownsRow B 22 1 v ms.length (ms.map mL.cell)
 ok:∀ m∈ms,m.In w R
 apart:∀ b,v.ownBlock=some b→¬R b
theorem sH.sm{w w':World}{B:Nat}{R S:Nat→Prop}{v:Value}{ms:List mL}(h:sH w B R v ms)(hs:Sm S w w')(hS:∀ x,R x→¬S x)(hv:∀ b,v.ownBlock=some b→¬S b):sH w' B R v ms:=
 ⟨aa h.own hs hv,fun m hm=>(h.ok m hm).sm hs hS,h.apart⟩
theorem sH.no{w w':World}{B:Nat}{R:Nat→Prop}{v:Value}{ms:List mL}(h:sH w B R v ms)(hs:Sm No w w'):sH w' B R v ms:=h.sm hs (fun _ _ e=>e) (fun _ _ e=>e)
end Go.Proofs.YtcflkcbogofgbaaGreatDoor
