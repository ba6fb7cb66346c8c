import Derived.Test.YtadcjgopaadfjaaGreatDoorQCC
import Derived.Test.YtadcjgopaadfjaaGreatDoorQGA
set_option maxHeartbeats 8000000
set_option maxRecDepth 100000
namespace Go.Proofs.YtadcjgopaadfjaaGreatDoor
open Go.RowKit Go.Proofs
section
variable {w0 w:World} {D:Nat→Nat→Prop} {c bc:Nat} {z:Zn} {K:Kn} {s:Cn}
end
theorem rO(w0 w:World)(D:Nat→Nat→Prop)(c:Nat)(z:Zn)(K:Kn)(s:Cn)(h:aq w0 w D c z K s):Calls Tryz.prog 16 #[.pointer (some ⟨c,0,none⟩)] w fun e w'=>e=.returned (.tuple #[.int .i64 s.phase,.int .i64 s.since])∧Sm No w w':=by
 have hcl:=h.bk.lt;have c20:=h.bk.at 20 (v:=.int .i64 s.phase) rfl;have c21:=h.bk.at 21 (v:=.int .i64 s.since) rfl;obtain⟨a,ha⟩:∃ n,s.phase=n:=⟨_,rfl⟩;obtain⟨b,hb⟩:∃ n,s.since=n:=⟨_,rfl⟩;rw [ha] at c20;rw [hb] at c21;rw [ha,hb];clear h ha hb;go_in;go_wp2_with fail;go_quiet (fail);go_wp2_with fail;go_ret2;exact⟨rfl,(Sm.refl No w).drewN _⟩
def CE(w:World)(e:Ending)(w':World):Prop:=∃ g,e=.returned (.pointer (some ⟨g,0,none⟩))∧eU w' (fun x=>w.heap.size≤x∧x < w'.heap.size) g [] [] 0∧Sm No w w'
theorem oF(w:World):Calls Tryz.prog 54 #[] w (CE w):=by
 go_in;go_wp2_with fail;go_ret;refine⟨w.heap.size,rfl,⟨.slice none 0 0,.slice none 0 0,⟨Bk.new w _ _,⟨rfl,Or.inl ⟨rfl,rfl⟩⟩,⟨rfl,Or.inl ⟨rfl,rfl⟩⟩⟩,⟨Nat.le_refl _,by simp⟩,(fun x e=>by cases e),(fun x e=>by cases e)⟩,(Sm.refl No w).alloc _⟩
theorem DH {w0 w wE:World} {P3 P4:Nat→Prop} {gs gr gq gp gm c a2 b2 a5 b5:Nat} {K:Kn} {now:Int} (g1:G1 w0) (pos:0 < w0.heap.size) (hw0:Sm No w0 w) (hw:Sm No w wE)
 (hr:cA w P3 gr K.n []) (hs:ft w P4 gs K.T) (h34:∀ x,P3 x→¬P4 x) (h3:∀ x,P3 x→w0.heap.size≤x∧x < w.heap.size) (h4:∀ x,P4 x→w0.heap.size≤x∧x < w.heap.size)
 (hq:eU wE (fun x=>a2≤x∧x < b2) gq [] [] 0) (hp:bZ wE (fun x=>a5≤x∧x < b5) gp .idle) (hm:dT wE gm 0 (fun _=>false)) (bk:Bk wE c 46 (oY K ⟨gq,gs,gr,gp,gm⟩ (Cn.new now)))
 (k1:w.heap.size≤a2∧w.heap.size≤a5∧w.heap.size≤gm∧w.heap.size≤c) (k2:b2≤c∧b5≤c∧gm < c) (k3:b2≤a5∨b5≤a2) (k4:gm < a2∨b2≤gm) (k5:gm < a5∨b5≤gm):
 ∃ D,aq w0 wE D c ⟨gq,gs,gr,gp,gm⟩ K (Cn.new now)∧∀ x,ck D x→P3 x∨P4 x∨w.heap.size≤x:=by
 have hc:=bk.lt;have e1:=hw0.size;refine⟨fun k x=>(k=1∧x=c)∨(k=2∧a2≤x∧x < b2)∨(k=3∧P3 x)∨(k=4∧P4 x)∨(k=5∧a5≤x∧x < b5)∨(k=6∧x=gm),⟨⟨?_,?_,?_,g1,hw0.tt hw,pos⟩,bk,Or.inl ⟨rfl,rfl⟩,?_,?_,?_,?_,?_,Or.inr (Or.inr (Or.inr (Or.inr (Or.inr ⟨rfl,rfl⟩)))),trivial,trivial⟩,?_⟩
 ·rintro x j k (⟨rfl,h⟩|⟨rfl,h⟩|⟨rfl,h⟩|⟨rfl,h⟩|⟨rfl,h⟩|⟨rfl,h⟩) (⟨rfl,h'⟩|⟨rfl,h'⟩|⟨rfl,h'⟩|⟨rfl,h'⟩|⟨rfl,h'⟩|⟨rfl,h'⟩)<;>first
   |rfl
   |omega
   |exact absurd h' (h34 x h)
   |exact absurd h (h34 x h')
   |(have:=(h3 x h).2;omega)
   |(have:=(h3 x h').2;omega)
   |(have:=(h4 x h).2;omega)
   |(have:=(h4 x h').2;omega)
 ·rintro k x (⟨rfl,h⟩|⟨rfl,h⟩|⟨rfl,h⟩|⟨rfl,h⟩|⟨rfl,h⟩|⟨rfl,h⟩)
  ·omega
  ·omega
  ·have:=(h3 x h).2;omega
  ·have:=(h4 x h).2;omega
  ·omega
  ·omega
 ·rintro k x (⟨rfl,h⟩|⟨rfl,h⟩|⟨rfl,h⟩|⟨rfl,h⟩|⟨rfl,h⟩|⟨rfl,h⟩)
  ·omega
  ·omega
  ·exact(h3 x h).1
  ·exact(h4 x h).1
  ·omega
  ·omega
 ·rw [show (fun x=>(2=1∧x=c)∨(2=2∧a2≤x∧x < b2)∨(2=3∧P3 x)∨(2=4∧P4 x)∨(2=5∧a5≤x∧x < b5)∨(2=6∧x=gm))=(fun x=>a2≤x∧x < b2) from by funext x;simp];exact hq
 ·rw [show (fun x=>(3=1∧x=c)∨(3=2∧a2≤x∧x < b2)∨(3=3∧P3 x)∨(3=4∧P4 x)∨(3=5∧a5≤x∧x < b5)∨(3=6∧x=gm))=P3 from by funext x;simp];exact hr.no hw
 ·rw [show (fun x=>(4=1∧x=c)∨(4=2∧a2≤x∧x < b2)∨(4=3∧P3 x)∨(4=4∧P4 x)∨(4=5∧a5≤x∧x < b5)∨(4=6∧x=gm))=P4 from by funext x;simp];exact hs.no hw
 ·rw [show (fun x=>(5=1∧x=c)∨(5=2∧a2≤x∧x < b2)∨(5=3∧P3 x)∨(5=4∧P4 x)∨(5=5∧a5≤x∧x < b5)∨(5=6∧x=gm))=(fun x=>a5≤x∧x < b5) from by funext x;simp];exact hp
 ·exact hm
 ·rintro x ⟨k,⟨rfl,h⟩|⟨rfl,h⟩|⟨rfl,h⟩|⟨rfl,h⟩|⟨rfl,h⟩|⟨rfl,h⟩⟩
  ·right;right;omega
  ·right;right;omega
  ·exact Or.inl h
  ·exact Or.inr (Or.inl h)
  ·right;right;omega
  ·right;right;omega
theorem tk{P:Program}{W:World}{ty:TypeId}{o:Oper}{a:Act}{g:Nat}{cs:Array Value}{fs:Array Field}(hi:(P.info? ty).map (·.size)=some cs.size)(hu:P.underlying ty=some (.struct fs)){t:TypeId}(hb:Bk W g t cs){x:Operand}(ho:o.op=.load ty x)(hx:a.eval x=.pointer (some ⟨g,0,none⟩)):
 Sem.run P (execOp a.eval o) W=.ok (.value (.agg cs)) W:=by
 unfold execOp;simp only [ho,hx,Instr.loadAt,Instr.sureAddr,Sem.run_bind,Sem.run_pure,Result.andThen_ok,run_loadVar_row W g t ty cs (0,0) (.struct fs) hb hu rfl hi]
def zh(w0 w:World)(P3 P4:Nat→Prop)(K:Kn)(now:Int)(e:Ending)(w':World):Prop:=
 ∃ c z D,e=.returned (.tuple #[.pointer (some ⟨c,0,none⟩),.int .i64 0])∧aq w0 w' D c z K (Cn.new now)∧(∀ x,ck D x→P3 x∨P4 x∨w.heap.size≤x)∧Sm No w w'
theorem yK(w0 w:World)(P3 P4:Nat→Prop)(gs gr:Nat)(K:Kn)(now:Int)(g1:G1 w0)(pos:0 < w0.heap.size)(hw0:Sm No w0 w)(hC:K.C.ok=true)(hr:cA w P3 gr K.n [])(hs:ft w P4 gs K.T)(h34:∀ x,P3 x→¬P4 x)(h3:∀ x,P3 x→w0.heap.size≤x∧x < w.heap.size)(h4:∀ x,P4 x→w0.heap.size≤x∧x < w.heap.size)(hn:0≤now):
 Calls Tryz.prog 30 #[.agg K.C.vals,.pointer (some ⟨gs,0,none⟩),.pointer (some ⟨gr,0,none⟩),.int .i64 now] w (zh w0 w P3 P4 K now):=by
 have HI:=aa (fun x1=> @DH w0 w x1 P3 P4 gs gr);have HB:=aa (ab g1 (ab pos (ab hw0 (ab hr (ab hs (ab h34 (ab h3 h4)))))));have HG:=aa (fun W=>Bb K.C W hC);have hn1:¬now < 0:=by omega
 clear g1 pos hw0 hr hs h34 h3 h4 hC hn;have hmm:= @run_makeMap Tryz.prog;obtain⟨C,T,n⟩:=K;dsimp only at HG ⊢;go_in;go_wp2_with (refine bj rfl 28 _ rfl Tryz.underlying28 16 eN _ rfl _ (Bk.new _ _ _) rfl ?_);refine(HG.out _).mono ?_;rintro e w1 ⟨g,m, -, -,rfl, -,hs1⟩;have hb1:=(Bk.new w 28 C.vals).sm hs1 (fun h=>h.elim);have hs1:=((Sm.refl No w).alloc _).tt hs1;have HS1:=aa (ab hb1 hs1);have hbd:=hb1.sm (Sm.refl No w1).drew (fun e=>e);clear hb1 hs1;go_wp2_with fail;refine wp_region_noPanic ?_;refine wp_region_held_drew (S:=fun W=>Bk W w.heap.size 28 C.vals) (by kernel_rfl) hbd (fun hHeld=> ?_);refine' aj (i:=1) (oi:=_) (d:=32) (v:=.agg #[.int .i64 C.maxConns,.int .i64 C.maxPerPeer,.int .i64 C.pipeline,.int .i64 C.buffers,.int .i64 C.idle,.int .i64 C.head,.int .i64 C.body,.int .i64 C.write,.int .i64 C.linger,.int .i64 C.pace,.int .i64 C.paceBytes,.int .i64 C.base,.int .i64 C.cap,.bool C.refuse,.bool C.evict,.slice C.ta C.tl C.tc]) rfl rfl (by kernel_rfl) (by kernel_rfl) (by kernel_rfl) (fun _ _ _ h=>h) (Or.inl ⟨by kernel_rfl,?hyx1⟩) (by assumption) ?rtx1
 case hyx1=>(intro W hSw;exact tk eN Tryz.underlying28 hSw rfl rfl)
 try simp only [Act.put,List.setIfInBounds_toArray,List.set_cons_zero,List.set_cons_succ]
 refine' aj (i:=2) (oi:=_) (d:=33) (v:=_) rfl rfl (by kernel_rfl) (by kernel_rfl) (by kernel_rfl) (fun _ _ _ h=>h) (Or.inl ⟨by kernel_rfl,?hyx2⟩) (by assumption) ?rtx2
 case hyx2=>(intro w hSw;clear hSw;go_simp;try(with_reducible rfl))
 try simp only [Act.put,List.setIfInBounds_toArray,List.set_cons_zero,List.set_cons_succ]
 refine' aj (i:=3) (oi:=_) (d:=34) (v:=_) rfl rfl (by kernel_rfl) (by kernel_rfl) (by kernel_rfl) (fun _ _ _ h=>h) (Or.inl ⟨by kernel_rfl,?hyx3⟩) (by assumption) ?rtx3
 case hyx3=>(intro w hSw;clear hSw;go_simp;try(with_reducible rfl))
 try simp only [Act.put,List.setIfInBounds_toArray,List.set_cons_zero,List.set_cons_succ]
 refine' aj (i:=5) (oi:=_) (d:=36) (v:=_) rfl rfl (by kernel_rfl) (by kernel_rfl) (by kernel_rfl) (fun _ _ _ h=>h) (Or.inl ⟨by kernel_rfl,?hyx4⟩) (by assumption) ?rtx4
 case hyx4=>(intro w hSw;clear hSw;go_simp;try(with_reducible rfl))
 try simp only [Act.put,List.setIfInBounds_toArray,List.set_cons_zero,List.set_cons_succ]
 refine' aj (i:=6) (oi:=_) (d:=37) (v:=_) rfl rfl (by kernel_rfl) (by kernel_rfl) (by kernel_rfl) (fun _ _ _ h=>h) (Or.inl ⟨by kernel_rfl,?hyx5⟩) (by assumption) ?rtx5
 case hyx5=>(intro w hSw;clear hSw;go_simp;try(with_reducible rfl))
 try simp only [Act.put,List.setIfInBounds_toArray,List.set_cons_zero,List.set_cons_succ]
 refine wpAnyH_ready (rs:=[0,7]) (by kernel_rfl) (by simp) ?_;refine AllReadyH.cons (o:=_) rfl (fun K hK=> ?_) ?_
 ·skip
  rw [if_pos (by kernel_rfl)];go_simp;refine(oF _).mono ?_;rintro e wq ⟨gq,rfl,hq,hsq⟩;have Hq:=aa (ab hq hsq);have hH2:=hHeld.sm hsq (fun e=>e);clear hq hsq hHeld;go_wp2_with fail;refine hK.out _ _ hH2 (fun hHeld=> ?_);clear hK hH2;refine wpAnyH_ready (rs:=[4,7]) (by kernel_rfl) (by simp) ?_;refine AllReadyH.cons (o:=_) rfl (fun K hK=> ?_) ?_
  ·skip
   rw [if_pos (by kernel_rfl)];go_simp;refine(iP _).mono ?_;rintro e wp ⟨gp,rfl,hp,hsp⟩;have Hp:=aa (ab hp hsp);have hH2:=hHeld.sm hsp (fun e=>e);clear hp hsp hHeld;go_wp2_with fail;refine hK.out _ _ hH2 (fun hHeld=> ?_);clear hK hH2;refine wpAnyH_ready (rs:=[7]) (by kernel_rfl) (by simp) ?_;refine AllReadyH.cons (o:=_) rfl (fun K hK=> ?_) AllReadyH.nil;go_simp;refine hK.out _ _ (hHeld.sm ((Sm.refl No _).alloc _) (fun e=>e)) (fun hHeld=> ?_);clear hK;refine' aj (i:=8) (oi:=_) (d:=39) (v:=_) rfl rfl (by kernel_rfl) (by kernel_rfl) (by kernel_rfl) (fun _ _ _ h=>h) (Or.inl ⟨by kernel_rfl,?hyx6⟩) (by assumption) ?rtx6
   case hyx6=>(intro w hSw;clear hSw;go_simp;try(with_reducible rfl))
   try simp only [Act.put,List.setIfInBounds_toArray,List.set_cons_zero,List.set_cons_succ]
   refine wpAnyH_ready (rs:=[9]) (by kernel_rfl) (by simp) ?_;refine AllReadyH.cons (o:=_) rfl (fun K hK=> ?_) AllReadyH.nil;go_simp;refine hK.out _ _ (hHeld.sm ((Sm.refl No _).alloc _) (fun e=>e)) (fun hHeld=> ?_);clear hK;refine' aj (i:=10) (oi:=_) (d:=8) (v:=_) rfl rfl (by kernel_rfl) (by kernel_rfl) (by kernel_rfl) (fun _ _ _ h=>h) (Or.inl ⟨by kernel_rfl,?hyx7⟩) (by assumption) ?rtx7
   case hyx7=>(intro w hSw;clear hSw;go_simp;try(with_reducible rfl))
   try simp only [Act.put,List.setIfInBounds_toArray,List.set_cons_zero,List.set_cons_succ]
   refine' aj (i:=11) (oi:=_) (d:=9) (v:=_) rfl rfl (by kernel_rfl) (by kernel_rfl) (by kernel_rfl) (fun _ _ _ h=>h) (Or.inl ⟨by kernel_rfl,?hyx8⟩) (by assumption) ?rtx8
   case hyx8=>(intro w hSw;clear hSw;go_simp;try(with_reducible rfl))
   try simp only [Act.put,List.setIfInBounds_toArray,List.set_cons_zero,List.set_cons_succ]
   refine wpAnyH_done (by kernel_rfl) ?_ _;refine NoPanic.normal ?_;go_wp2_with fail;go_ret2;have s0:Sm No w w1.drew:=HS1.out.2.drew;have s1:Sm No w1.drew wq:=Hq.out.2;have s2:Sm No wq wp:=Hp.out.2;have s3:Sm No wp (wp.alloc (.map #[] 0)):=(Sm.refl No wp).alloc _;have t4:Sm No (wp.alloc (.map #[] 0)) ((wp.alloc (.map #[] 0)).alloc (.cells (oY ⟨C,T,n⟩ ⟨gq,gs,gr,gp,(wp).heap.size⟩ (Cn.new now)) 46)):=(Sm.refl No (wp.alloc (.map #[] 0))).alloc _;have t3:Sm No wp _:=s3.tt t4;have t2:Sm No wq _:=s2.tt t3;have t1:Sm No w1.drew _:=s1.tt t2;have t0:Sm No w _:=s0.tt t1;have z0:=s0.size;have z1:=s1.size;have z2:=s2.size;have z3:=s3.size;have zm:((wp.alloc (.map #[] 0))).heap.size=(wp).heap.size+1:=by simp
   have zd:w1.drew.heap.size=w1.heap.size:=rfl;obtain⟨g1,pos,hw0,hr,hs,h34,h3,h4⟩:=HB.out;obtain⟨D,hI,hD⟩:=HI.out _ g1 pos hw0 t0 hr hs h34 h3 h4 (Hq.out.1.no t2) (Hp.out.1.no t3) ((dT.made (wp)).no t4) (Bk.newAt (g:=wp.heap.size+1) (wp.alloc (.map #[] 0)) _ _ (by simp)) ⟨by omega,by omega,by omega,by omega⟩ ⟨by omega,by omega,by omega⟩ (by omega) (by omega) (by omega);exact⟨_,_,D,rfl,hI,hD,t0⟩
  ·refine AllReadyH.cons (o:=_) rfl (fun K hK=> ?_) AllReadyH.nil;go_simp;refine hK.out _ _ (hHeld.sm ((Sm.refl No _).alloc _) (fun e=>e)) (fun hHeld=> ?_);clear hK;refine wpAnyH_ready (rs:=[4]) (by kernel_rfl) (by simp) ?_;refine AllReadyH.cons (o:=_) rfl (fun K hK=> ?_) AllReadyH.nil;rw [if_pos (by kernel_rfl)];go_simp;refine(iP _).mono ?_;rintro e wp ⟨gp,rfl,hp,hsp⟩;have Hp:=aa (ab hp hsp);have hH2:=hHeld.sm hsp (fun e=>e);clear hp hsp hHeld;go_wp2_with fail;refine hK.out _ _ hH2 (fun hHeld=> ?_);clear hK hH2;refine' aj (i:=8) (oi:=_) (d:=39) (v:=_) rfl rfl (by kernel_rfl) (by kernel_rfl) (by kernel_rfl) (fun _ _ _ h=>h) (Or.inl ⟨by kernel_rfl,?hyx9⟩) (by assumption) ?rtx9
   case hyx9=>(intro w hSw;clear hSw;go_simp;try(with_reducible rfl))
   try simp only [Act.put,List.setIfInBounds_toArray,List.set_cons_zero,List.set_cons_succ]
   refine wpAnyH_ready (rs:=[9]) (by kernel_rfl) (by simp) ?_;refine AllReadyH.cons (o:=_) rfl (fun K hK=> ?_) AllReadyH.nil;go_simp;refine hK.out _ _ (hHeld.sm ((Sm.refl No _).alloc _) (fun e=>e)) (fun hHeld=> ?_);clear hK;refine' aj (i:=10) (oi:=_) (d:=8) (v:=_) rfl rfl (by kernel_rfl) (by kernel_rfl) (by kernel_rfl) (fun _ _ _ h=>h) (Or.inl ⟨by kernel_rfl,?hyx10⟩) (by assumption) ?rtx10
   case hyx10=>(intro w hSw;clear hSw;go_simp;try(with_reducible rfl))
   try simp only [Act.put,List.setIfInBounds_toArray,List.set_cons_zero,List.set_cons_succ]
   refine' aj (i:=11) (oi:=_) (d:=9) (v:=_) rfl rfl (by kernel_rfl) (by kernel_rfl) (by kernel_rfl) (fun _ _ _ h=>h) (Or.inl ⟨by kernel_rfl,?hyx11⟩) (by assumption) ?rtx11
   case hyx11=>(intro w hSw;clear hSw;go_simp;try(with_reducible rfl))
   try simp only [Act.put,List.setIfInBounds_toArray,List.set_cons_zero,List.set_cons_succ]
   refine wpAnyH_done (by kernel_rfl) ?_ _;refine NoPanic.normal ?_;go_wp2_with fail;go_ret2;have s0:Sm No w w1.drew:=HS1.out.2.drew;have s1:Sm No w1.drew wq:=Hq.out.2;have s2:Sm No wq (wq.alloc (.map #[] 0)):=(Sm.refl No wq).alloc _;have s3:Sm No (wq.alloc (.map #[] 0)) wp:=Hp.out.2;have t4:Sm No wp (wp.alloc (.cells (oY ⟨C,T,n⟩ ⟨gq,gs,gr,gp,(wq).heap.size⟩ (Cn.new now)) 46)):=(Sm.refl No wp).alloc _;have t3:Sm No (wq.alloc (.map #[] 0)) _:=s3.tt t4;have t2:Sm No wq _:=s2.tt t3;have t1:Sm No w1.drew _:=s1.tt t2;have t0:Sm No w _:=s0.tt t1;have z0:=s0.size;have z1:=s1.size;have z2:=s2.size;have z3:=s3.size;have zm:((wq.alloc (.map #[] 0))).heap.size=(wq).heap.size+1:=by simp
   have zd:w1.drew.heap.size=w1.heap.size:=rfl;obtain⟨g1,pos,hw0,hr,hs,h34,h3,h4⟩:=HB.out;obtain⟨D,hI,hD⟩:=HI.out _ g1 pos hw0 t0 hr hs h34 h3 h4 (Hq.out.1.no t2) (Hp.out.1.no t4) ((dT.made (wq)).no t3) (Bk.newAt (g:=wp.heap.size) wp _ _ (by simp)) ⟨by omega,by omega,by omega,by omega⟩ ⟨by omega,by omega,by omega⟩ (by omega) (by omega) (by omega);exact⟨_,_,D,rfl,hI,hD,t0⟩
 ·refine AllReadyH.cons (o:=_) rfl (fun K hK=> ?_) AllReadyH.nil;go_simp;refine hK.out _ _ (hHeld.sm ((Sm.refl No _).alloc _) (fun e=>e)) (fun hHeld=> ?_);clear hK;refine wpAnyH_ready (rs:=[0]) (by kernel_rfl) (by simp) ?_;refine AllReadyH.cons (o:=_) rfl (fun K hK=> ?_) AllReadyH.nil;rw [if_pos (by kernel_rfl)];go_simp;refine(oF _).mono ?_;rintro e wq ⟨gq,rfl,hq,hsq⟩;have Hq:=aa (ab hq hsq);have hH2:=hHeld.sm hsq (fun e=>e);clear hq hsq hHeld;go_wp2_with fail;refine hK.out _ _ hH2 (fun hHeld=> ?_);clear hK hH2;refine wpAnyH_ready (rs:=[4]) (by kernel_rfl) (by simp) ?_;refine AllReadyH.cons (o:=_) rfl (fun K hK=> ?_) AllReadyH.nil;rw [if_pos (by kernel_rfl)];go_simp;refine(iP _).mono ?_;rintro e wp ⟨gp,rfl,hp,hsp⟩;have Hp:=aa (ab hp hsp);have hH2:=hHeld.sm hsp (fun e=>e);clear hp hsp hHeld;go_wp2_with fail;refine hK.out _ _ hH2 (fun hHeld=> ?_);clear hK hH2;refine' aj (i:=8) (oi:=_) (d:=39) (v:=_) rfl rfl (by kernel_rfl) (by kernel_rfl) (by kernel_rfl) (fun _ _ _ h=>h) (Or.inl ⟨by kernel_rfl,?hyx12⟩) (by assumption) ?rtx12
  case hyx12=>(intro w hSw;clear hSw;go_simp;try(with_reducible rfl))
  try simp only [Act.put,List.setIfInBounds_toArray,List.set_cons_zero,List.set_cons_succ]
  refine wpAnyH_ready (rs:=[9]) (by kernel_rfl) (by simp) ?_;refine AllReadyH.cons (o:=_) rfl (fun K hK=> ?_) AllReadyH.nil;go_simp;refine hK.out _ _ (hHeld.sm ((Sm.refl No _).alloc _) (fun e=>e)) (fun hHeld=> ?_);clear hK;refine' aj (i:=10) (oi:=_) (d:=8) (v:=_) rfl rfl (by kernel_rfl) (by kernel_rfl) (by kernel_rfl) (fun _ _ _ h=>h) (Or.inl ⟨by kernel_rfl,?hyx13⟩) (by assumption) ?rtx13
  case hyx13=>(intro w hSw;clear hSw;go_simp;try(with_reducible rfl))
  try simp only [Act.put,List.setIfInBounds_toArray,List.set_cons_zero,List.set_cons_succ]
  refine' aj (i:=11) (oi:=_) (d:=9) (v:=_) rfl rfl (by kernel_rfl) (by kernel_rfl) (by kernel_rfl) (fun _ _ _ h=>h) (Or.inl ⟨by kernel_rfl,?hyx14⟩) (by assumption) ?rtx14
  case hyx14=>(intro w hSw;clear hSw;go_simp;try(with_reducible rfl))
  try simp only [Act.put,List.setIfInBounds_toArray,List.set_cons_zero,List.set_cons_succ]
  refine wpAnyH_done (by kernel_rfl) ?_ _;refine NoPanic.normal ?_;go_wp2_with fail;go_ret2;have s0:Sm No w w1.drew:=HS1.out.2.drew;have s1:Sm No w1.drew (w1.drew.alloc (.map #[] 0)):=(Sm.refl No w1.drew).alloc _;have s2:Sm No (w1.drew.alloc (.map #[] 0)) wq:=Hq.out.2;have s3:Sm No wq wp:=Hp.out.2;have t4:Sm No wp (wp.alloc (.cells (oY ⟨C,T,n⟩ ⟨gq,gs,gr,gp,(w1.drew).heap.size⟩ (Cn.new now)) 46)):=(Sm.refl No wp).alloc _;have t3:Sm No wq _:=s3.tt t4;have t2:Sm No (w1.drew.alloc (.map #[] 0)) _:=s2.tt t3;have t1:Sm No w1.drew _:=s1.tt t2;have t0:Sm No w _:=s0.tt t1;have z0:=s0.size;have z1:=s1.size;have z2:=s2.size;have z3:=s3.size;have zm:((w1.drew.alloc (.map #[] 0))).heap.size=(w1.drew).heap.size+1:=by simp
  have zd:w1.drew.heap.size=w1.heap.size:=rfl;have ze:(w1.alloc (.map #[] 0)).drew.heap.size=w1.heap.size+1:=by simp
  obtain⟨g1,pos,hw0,hr,hs,h34,h3,h4⟩:=HB.out;obtain⟨D,hI,hD⟩:=HI.out _ g1 pos hw0 t0 hr hs h34 h3 h4 (Hq.out.1.no t3) (Hp.out.1.no t4) ((dT.made (w1.drew)).no t2) (Bk.newAt (g:=wp.heap.size) wp _ _ (by simp)) ⟨by omega,by omega,by omega,by omega⟩ ⟨by omega,by omega,by omega⟩ (by omega) (by omega) (by omega);exact⟨_,_,D,rfl,hI,hD,t0⟩
end Go.Proofs.YtadcjgopaadfjaaGreatDoor
