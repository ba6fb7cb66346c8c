import Derived.Test.YtadcjgopaadfjaaGreatDoorQCD
import Derived.Test.YtadcjgopaadfjaaGreatDoorQG
import Derived.Lib.SlBytesConst
set_option maxHeartbeats 16000000
set_option maxRecDepth 1000000
namespace Go.Proofs.YtadcjgopaadfjaaGreatDoor
open Go.RowKit Go.Proofs
def eD(p:Int):ug:=⟨1,1,p,0,50,20,30,40,10,0,0,0,0,false,false,none,0,0⟩
theorem lF(w:World):Calls Tryz.prog 11 #[] w fun e w'=>e=.returned (.agg (eD 2).vals)∧Sm No w w':=by
 go_in;go_wp2_with (refine kS rfl 28 _ _ rfl 16 eN _ rfl _ rfl rfl rfl rfl rfl ?_);exact bodyPost_ret (vp Tryz.results11 _ w.heap.size rfl (Bk.new w _ _) Tryz.underlying28 eN rfl) rfl ⟨rfl,by repeat (first|exact Sm.refl _ _|apply Sm.alloc)⟩
def lK:List br:=[⟨⟨#[47,97]⟩,⟨#[116,101,120,116,47,112,108,97,105,110]⟩,⟨#[104,101,108,108,111]⟩⟩,⟨⟨#[47,115]⟩,⟨#[115,116,114,101,97,109,47,120]⟩,⟨#[48,49,50,51,52,53,54,55,56,57,48,49,50,51,52,53,54,55,56,57,48,49,50,51,52,53,54,55,56,57,48,49,50,51,52,53,54,55,56,57]⟩⟩]
theorem ur:cD lK=0:=by kernel_rfl
theorem qY:nM lK:=by
 intro x hx;unfold lK at hx;rcases List.mem_cons.1 hx with rfl|hx
 ·exact⟨by decide,by decide,by decide⟩
 ·rw [List.mem_singleton] at hx;subst hx;exact⟨by decide,by decide,by decide⟩
theorem rS(w:World):Calls Tryz.prog 32 #[] w fun e w'=>∃ g,e=.returned (.slice (some ⟨g,0,none⟩) 2 2)∧ax w' (some ⟨g,0,none⟩) (bB lK)∧Sm No w w':=by
 go_in;go_wp2_with fail;go_ret;exact⟨w.heap.size,rfl,dt (Bk.new w _ _),(Sm.refl No w).alloc _⟩
theorem qP(n a b:Int)(w:World):Calls Tryz.prog 95 #[.int .i64 n,.int .i64 a,.int .i64 b] w fun e w'=>e=.returned (.bool (decide (a≤n)&&decide (n≤b)))∧w=w':=by
 by_cases h:a≤n
 ·have h1:decide (a≤n)=true:=decide_eq_true h;go_in;go_wp2_with fail;go_ret;exact⟨by simp [h],rfl⟩
 ·have h1:decide (a≤n)=false:=decide_eq_false h;go_in;go_wp2_with fail;go_ret;exact⟨by simp,rfl⟩
theorem gR(p:Int):(eD p).vals=#[.int .i64 1,.int .i64 1,.int .i64 p,.int .i64 0,.int .i64 50,.int .i64 20,.int .i64 30,.int .i64 40,.int .i64 10,.int .i64 0,.int .i64 0,.int .i64 0,.int .i64 0,.bool false,.bool false,.slice none 0 0]:=rfl
theorem oP{p:Int}(h:1≤p∧p≤20):(eD p).ok=true:=by
 have e1:decide (1≤p)=true:=decide_eq_true h.1;have e2:decide (p≤64)=true:=decide_eq_true (by omega);simp [ug.ok,eD,fU,e1,e2]
theorem lU(w:World)(p:Int)(h:1≤p∧p≤20):Calls Tryz.prog 64 #[.agg (eD p).vals] w fun e w'=>e=.returned (.bool true)∧Sm No w w':=by
 have e1:decide (1≤p)=true:=decide_eq_true h.1;have e2:decide (p≤64)=true:=decide_eq_true (by omega);rw [gR];go_in;go_wp2_with (first|(go_at_call 95;refine(qP _ _ _ _).mono ?_;rintro e w' ⟨rfl,rfl⟩));go_ret;exact⟨rfl,(Sm.refl No w).alloc _⟩
theorem tX(w:World)(n:Nat)(h1:1≤n)(h2:n≤65536):Calls Tryz.prog 35 #[.int .i64 (n:Int)] w fun e w'=>∃ g,e=.returned (.tuple #[.pointer (some ⟨g,0,none⟩),.int .i64 0])∧Sm No w w':=by
 have k1:¬(n:Int) < 1:=by omega
 have k2:¬(n:Int) > 65536:=by omega
 go_in;go_wp2_with fail;go_ret2;exact⟨⟨w.heap.size,rfl⟩,(Sm.refl No w).alloc _⟩
theorem pL(w:World)(gy gz:Nat)(p:Int)(h:1≤p∧p≤20):Calls Tryz.prog 36 #[.agg (eD p).vals,.pointer (some ⟨gy,0,none⟩),.pointer (some ⟨gz,0,none⟩),.int .i64 0] w fun e w'=>∃ g,e=.returned (.tuple #[.pointer (some ⟨g,0,none⟩),.int .i64 0])∧Sm No w w':=by
 have HC:=aa (fun W=>lU W p h);clear h;rw [gR] at HC ⊢;go_in;go_wp2_with fail;refine(HC.out _).mono ?_;rintro e w1 ⟨rfl,hs1⟩;have hb1:=(Bk.new w 28 #[.int .i64 1,.int .i64 1,.int .i64 p,.int .i64 0,.int .i64 50,.int .i64 20,.int .i64 30,.int .i64 40,.int .i64 10,.int .i64 0,.int .i64 0,.int .i64 0,.int .i64 0,.bool false,.bool false,.slice none 0 0]).sm hs1 (fun e=>e);have H1:=aa (((Sm.refl No w).alloc _).tt hs1);clear hs1;go_wp2_with (refine bj rfl 28 _ rfl Tryz.underlying28 16 eN _ rfl _ (hb1.sm ((((Sm.refl No w1).alloc _))) (fun e=>e)) rfl ?_);go_ret2;exact⟨w1.heap.size+1+1,rfl,((H1.out.alloc _).alloc _).alloc _⟩
def AB(w:World)(K:Kn)(e:Ending)(w':World):Prop:=
 ∃ b c z D x,e=.returned (.tuple #[.pointer (some ⟨b,0,none⟩),.bool true])∧aq w w' D c z K (Cn.new 0)∧Bk w' b 33 #[.pointer (some ⟨c,0,none⟩),.pointer (some ⟨x,0,none⟩),.int .i64 0]∧¬ck D b∧Sm No w w'
theorem ud(w:World)(hg:G1 w)(p:Int)(n:Nat)(h:1≤p∧p≤20)(h1:1≤n)(h2:n≤65536):Calls Tryz.prog 10 #[.agg (eD p).vals,.int .i64 (n:Int)] w (AB w ⟨eD p,lK,n⟩):=by
 have pos:0 < w.heap.size:=by obtain⟨m,hm⟩:=hg.1;exact World.block_lt_of_cell? w _ hm
 have HT:=aa rS;have HSp:=aa (fun (W:World) (hs:Sm No w W) (g:Nat) (hA:ax W (some ⟨g,0,none⟩) (bB lK))=>BN W (hg.no hs).1 (some ⟨g,0,none⟩) 2 lK hA (fun e=>by cases e) (by decide) qY);have HSx:=aa (fun (W:World) (g:Nat) (hA:ax W (some ⟨g,0,none⟩) (bB lK))=>zD W (some ⟨g,0,none⟩) 2 lK hA (fun e=>by cases e) (by decide) qY);have HRp:=aa (fun W=>zL W n h1 h2);have HRx:=aa (fun W=>tX W n h1 h2);have HCp:=aa (fun (W:World) (P3 P4:Nat→Prop) (gs gr:Nat) (hs:Sm No w W)=>yK w W P3 P4 gs gr ⟨eD p,lK,n⟩ 0 hg pos hs (oP h));have HCx:=aa (fun W gy gz=>pL W gy gz p h);clear hg pos h h1 h2;rw [gR] at HCp HCx ⊢;go_in;go_wp2_with fail;have hb0:=Bk.new w 28 #[.int .i64 1,.int .i64 1,.int .i64 p,.int .i64 0,.int .i64 50,.int .i64 20,.int .i64 30,.int .i64 40,.int .i64 10,.int .i64 0,.int .i64 0,.int .i64 0,.int .i64 0,.bool false,.bool false,.slice none 0 0];refine(HT.out _).mono ?_;rintro e w1 ⟨gA,rfl,hA,hs1⟩;have hb1:=hb0.sm hs1 (fun e=>e);have t1:Sm No w w1:=((Sm.refl No w).alloc _).tt hs1;clear hs1 hb0;have HS2:=aa (HSp.out w1 t1 gA hA);clear hA;go_wp2_with fail;refine HS2.out.mono ?_;rintro e w2 (⟨-,s,O4,rfl,hS,hs2,hO⟩|⟨hne, -⟩)
 case inr=>exact absurd ur hne
 have hb2:=hb1.sm hs2 (fun e=>e);have t2:Sm No w w2:=t1.tt hs2;have HO:=aa (fun x (hx:O4 x)=>Nat.le_trans t1.size (hO x hx));have HS:=aa hS;clear hS hO hb1 hs2;go_wp2_with fail;refine(HRp.out w2).mono ?_;rintro e w3 ⟨gr,rfl,hR,hs3⟩;have hb3:=hb2.sm hs3 (fun e=>e);have t3:Sm No w w3:=t2.tt hs3;have HS3:=aa (ab hR hs3);clear hR hs3 hb2;go_wp2_with fail;refine(HT.out _).mono ?_;rintro e w4 ⟨gB,rfl,hA,hs4⟩;have hb4:=hb3.sm hs4 (fun e=>e);have t4:Sm No w3 w4:=hs4;have HS4:=aa (HSx.out w4 gB hA);clear hA hs4 hb3;go_wp2_with fail;refine HS4.out.mono ?_;rintro e w5 (⟨-,y,Ox,rfl, -,hs5, -⟩|⟨hne, -⟩)
 case inr=>exact absurd ur hne
 have hb5:=hb4.sm hs5 (fun e=>e);have t5:Sm No w3 w5:=t4.tt hs5;clear hs5 hb4 t4;go_wp2_with fail;refine(HRx.out w5).mono ?_;rintro e w6 ⟨gz,rfl,hs6⟩;have hb6:=hb5.sm hs6 (fun e=>e);have t6:Sm No w3 w6:=t5.tt hs6;clear hs6 hb5 t5;have t26:Sm No w2 w6:=HS3.out.2.tt t6;have t06:Sm No w w6:=t2.tt t26;have HC6:=aa (HCp.out w6 (fun x=>w2.heap.size≤x∧x < w3.heap.size) O4 s gr t06 (HS3.out.1.no t6) (HS.out.no t26) (fun x hx e=>by
  obtain⟨_,_,_,_,_,_,_,hlt⟩:=HS.out;have:=hlt x e;omega) (fun x hx=>⟨Nat.le_trans t2.size hx.1,Nat.lt_of_lt_of_le hx.2 t6.size⟩) (fun x hx=>⟨HO.out x hx,by
  obtain⟨_,_,_,_,_,_,_,hlt⟩:=HS.out;exact Nat.lt_of_lt_of_le (hlt x hx) t26.size⟩) (by decide))
 go_wp2_with (refine bj rfl 28 _ rfl Tryz.underlying28 16 eN _ rfl _ hb6 rfl ?_);refine HC6.out.mono ?_;rintro e w7 ⟨c,z,D,rfl,hI,hD,hs7⟩;have hb7:=hb6.sm hs7 (fun e=>e);have H7:=aa (ab hI (ab hD (t06.tt hs7)));clear hI hD hs7 hb6;go_wp2_with (refine bj rfl 28 _ rfl Tryz.underlying28 16 eN _ rfl _ hb7 rfl ?_);refine(HCx.out w7 y gz).mono ?_;rintro e w8 ⟨x,rfl,hs8⟩;have h8:=H7.out.1.no hs8;have cq:=h8.bk.at 0 (v:=.pointer (some ⟨z.gq,0,none⟩)) rfl;have cl:=h8.bk.lt;have H8:=aa (ab h8 (H7.out.2.2.tt hs8));clear h8 hs8 hb7;go_wp2_with fail;have HQ:=aa (fun (W:World) (hs:Sm No w8 W)=>show W.cell? ⟨c,0,none⟩=some (.pointer (some ⟨z.gq,0,none⟩)) from hs.hold cl (fun e=>e) cq)
 go_region_held3 (fun w'=>w'.cell? ⟨c,0,none⟩=some (.pointer (some ⟨z.gq,0,none⟩))) (first|exact HQ.out _ (Sm.refl No w8).drew|exact HQ.out _ ((Sm.refl No w8).drew.alloc _)|exact HQ.out _ ((Sm.refl No w8).alloc _).drew) (fail)
 go_wp2_with fail;go_ret2;obtain⟨hI,hs⟩:=H8.out;refine⟨w8.heap.size,c,z,D,x,rfl,hI.no ((Sm.refl No w8).alloc _).drew,(Bk.new w8 _ _).drew,fun e=> ?_,(hs.alloc _).drew⟩;obtain⟨k,e⟩:=e;have:=hI.reg.lt k _ e;omega
theorem wC(w:World)(A B:Option Addr)(c d:Nat)(l:List UInt8)(hA:ax w A (aL l))(hB:ax w B (aL l))(hl:l.length≤1000000):
 Calls Tryz.prog 17 #[.slice A l.length c,.slice B l.length d] w fun e w'=>e=.returned (.bool true)∧Sm No w w':=by
 have HA:=aa (ab hA hB);clear hA hB;go_in;go_wp2_with fail
 go_loopw [5] (fun i wr=>Ba w l.length i wr) (fun i _=>l.length-(intOf i).toNat)
 case atStart=>exact⟨0,Nat.zero_le _,rfl,Sm.refl _ _⟩
 case round=>
  obtain⟨k,hk,rfl,hs⟩:=hrel;have HS:=aa hs;clear hs;by_cases hlt:k < l.length
  ·have e1:(aL l)[k]?=some (.int .u8 (l[k].toNat:Int)):=by simp [aL,hlt]
   obtain⟨b1,o1,hA1,hb1,r0⟩:=(HA.out.1.no HS.out).at e1;obtain⟨b2,o2,hA2,hb2,r1⟩:=(HA.out.2.no HS.out).at e1;subst hA1 hA2;obtain⟨nm,hnm⟩:∃ x,(l[k].toNat:Int)=x:=⟨_,rfl⟩;rw [hnm] at r0 r1;have k1:(0:Int)≤(k:Int):=by omega
   have k2:(k:Int) < (l.length:Int):=by omega
   clear hnm e1;go_wp2_with fail;go_quiet (fail);go_wp2_with fail;exact⟨⟨k+1,by omega,by go_num,HS.out.drewN _⟩,by simp [intOf];omega⟩
  ·go_wp2_with fail;go_ret;exact⟨rfl,HS.out⟩
theorem oJ(w:World)(C:Array Value)(t:TypeId)(fz:Nat × Nat):ax (w.alloc (.cells C t fz)) (some ⟨w.heap.size,0,none⟩) C.toList:=by
 intro j u hj;refine⟨w.heap.size,0,rfl,by simp,?_⟩;rw [Nat.zero_add];exact(cell_of_row _ w.heap.size j C t fz (heap_alloc_new w _)).trans (by simpa using hj)
theorem ax.pre{w:World}{A:Option Addr}{a b:List Value}(h:ax w A (a++b)):ax w A a:=fun j u hj=>h j u (by
 rw [List.getElem?_append_left (List.getElem?_eq_some_iff.1 hj).1];exact hj)
structure eG (w0 w:World) (D:Nat→Nat→Prop) (b c:Nat) (z:Zn) (K:Kn) (s:Cn):Prop where
 I:aq w0 w D c z K s
 B:∃ x,Bk w b 33 #[.pointer (some ⟨c,0,none⟩),x,.int .i64 0]
 N:¬ck D b
section
variable {w0 w w':World} {D D':Nat→Nat→Prop} {b c:Nat} {z:Zn} {K:Kn} {s s':Cn}
theorem eG.no(h:eG w0 w D b c z K s)(hs:Sm No w w'):eG w0 w' D b c z K s:=by
 obtain⟨h1,⟨x,h2⟩,h3⟩:=h;exact⟨h1.no hs,⟨x,h2.sm hs (fun e=>e)⟩,h3⟩
theorem eG.go(h:eG w0 w D b c z K s)(hi:aq w0 w' D' c z K s')(hg:aZ D w D' w'):eG w0 w' D' b c z K s':=by
 obtain⟨h1,⟨x,h2⟩,h3⟩:=h;exact⟨hi,⟨x,h2.sm hg.sm h3⟩,hg.far h2.lt h3⟩
theorem eG.cells(h:eG w0 w D b c z K s):w.cell? ⟨b,0,none⟩=some (.pointer (some ⟨c,0,none⟩))∧w.cell? ⟨c,0,none⟩=some (.pointer (some ⟨z.gq,0,none⟩))∧b < w.heap.size∧c < w.heap.size:=by
 obtain⟨h1,⟨x,h2⟩,h3⟩:=h;exact⟨h2.at 0 rfl,h1.bk.at 0 rfl,h2.lt,h1.bk.lt⟩
theorem eG.cellsN(h:eG w0 w D b c z K s)(W:World)(hs:Sm No w W):W.cell? ⟨b,0,none⟩=some (.pointer (some ⟨c,0,none⟩))∧W.cell? ⟨c,0,none⟩=some (.pointer (some ⟨z.gq,0,none⟩))∧b < W.heap.size∧c < W.heap.size:=(h.no hs).cells
theorem eG.next(h:eG w0 w D b c z K s)(hb:s.b.length≤1000000){n:Int}{T:ah}(hT:s.b.take (pR s.b n)=T):Calls Tryz.prog 18 #[.pointer (some ⟨z.gq,0,none⟩),.int .i64 n] w fun e w'=>∃ A cp,e=.returned (.slice A T.length cp)∧ax w' A (aL T)∧T.length≤cp∧Sm No w w':=by
 rw [←hT];obtain⟨vB,vP,hq, -⟩:=h.I.qu;refine(ww w z.gq vB vP s.b s.ps s.last n hq hb).mono ?_;rintro e w' ⟨v,rfl,hv,hs⟩;obtain⟨A,cp,rfl,hr,hc, -⟩:=hv.row;exact⟨A,cp,rfl,hr,hc,hs⟩
theorem eG.len(h:eG w0 w D b c z K s):Calls Tryz.prog 15 #[.pointer (some ⟨z.gq,0,none⟩)] w fun e w'=>e=.returned (.int .i64 (s.b.length:Int))∧w=w':=by
 obtain⟨vB,vP,hq, -⟩:=h.I.qu;exact iR w z.gq vB vP s.b s.ps s.last hq
theorem eG.left(h:eG w0 w D b c z K s)(hp:s.ps.length≤100000):Calls Tryz.prog 23 #[.pointer (some ⟨z.gq,0,none⟩)] w fun e w'=>∃ A cp,e=.returned (.slice A s.ps.length cp)∧Sm No w w':=by
 obtain⟨vB,vP,hq, -⟩:=h.I.qu;refine(nu w z.gq vB vP s.b s.ps s.last hq hp).mono ?_;rintro e w' ⟨v,rfl,hv,hs⟩;obtain⟨A,cp,rfl,hr, -⟩:=au hv;exact⟨A,cp,rfl,hs⟩
theorem eG.fresh(h:eG w0 w D b c z K s):¬ck D w.heap.size:=fun ⟨k,e⟩=>by have:=h.I.reg.lt k _ e;omega
theorem eG.push(h:eG w0 w D b c z K s)(hK:Ed K){t:ah}{n:Nat}{now:Int}(hp:rM K s t now=some (s',n)){g o cp:Nat}(hR:ax w (some ⟨g,o,none⟩) (aL t))(hg:¬ck D g)(hl:t.length≤100000)(hcp:t.length≤cp)(hcp2:cp≤9223372036854775807):
 Calls Tryz.prog 12 #[.pointer (some ⟨c,0,none⟩),.slice (some ⟨g,o,none⟩) t.length cp,.int .i64 now] w fun e w'=>e=.returned (.int .i64 (n:Int))∧∃ D',eG w0 w' D' b c z K s'∧aZ D w D' w':=by
 refine(ut w0 w D c z K s s' n (some ⟨g,o,none⟩) cp t now h.I hK hp hR (fun a e _=>by injection e with e;subst e;exact hg) (fun e=>by cases e) hl hcp hcp2).mono ?_;rintro e w' ⟨rfl,D',hi,hG⟩;exact⟨rfl,D',h.go hi hG,hG⟩
theorem eG.pushN(h:eG w0 w D b c z K s)(hK:Ed K){t:ah}{n:Nat}{now:Int}(hp:rM K s t now=some (s',n)){C:Array Value}{fz:Nat × Nat}(hC:C.toList=aL t)(hl:t.length≤100000):
 Calls Tryz.prog 12 #[.pointer (some ⟨c,0,none⟩),.slice (some ⟨w.heap.size,0,none⟩) t.length t.length,.int .i64 now] (w.alloc (.cells C 5 fz)) fun e w'=>e=.returned (.int .i64 (n:Int))∧∃ D',eG w0 w' D' b c z K s'∧aZ D (w.alloc (.cells C 5 fz)) D' w':=
 (h.no ((Sm.refl No w).alloc _)).push hK hp (by rw [←hC];exact oJ w C 5 fz) h.fresh hl (Nat.le_refl _) (by omega)
theorem eG.phase(h:eG w0 w D b c z K s){a t:Int}(ha:s.phase=a)(ht:s.since=t):Calls Tryz.prog 16 #[.pointer (some ⟨c,0,none⟩)] w fun e w'=>e=.returned (.tuple #[.int .i64 a,.int .i64 t])∧Sm No w w':=by
 rw [←ha,←ht];exact rO w0 w D c z K s h.I
theorem eG.sm(h:eG w0 w D b c z K s):Sm No w0 w:=h.I.reg.sm
end
theorem E1(p:Int)(n:Nat):Ed ⟨eD p,lK,n⟩:=⟨ur,qY⟩
def G5(r:Option (Cn × Nat))(f:Cn→Nat→Bool):Bool:=match r with
 |some (s,n)=>f s n
 |none=>false
def IQ(r:Option Cn)(f:Cn→Bool):Bool:=match r with
 |some s=>f s
 |none=>false
theorem Ea{r:Option (Cn × Nat)}{f:Cn→Nat→Bool}(h:G5 r f=true):∃ s n,r=some (s,n)∧f s n=true:=by
 cases r with
 |none=>cases h
 |some x=>exact⟨x.1,x.2,rfl,h⟩
theorem Hu{r:Option Cn}{f:Cn→Bool}(h:IQ r f=true):∃ s,r=some s∧f s=true:=by
 cases r with
 |none=>cases h
 |some x=>exact⟨x,rfl,h⟩
def GA:ah:=[71,69,84,32,47,115,116,97,116,117,115,32,72,84,84,80,47,49,46,49,13,10,72,111,115,116,58,32,97,13,10,13,10]
def B1:ah:=[72,84,84,80,47,49,46,49,32,50,48,48,32,79,75]
def G6:Kn:=⟨eD 2,lK,256⟩
theorem Fo:G5 (rM G6 (Cn.new 0) GA 3) (fun s n=>decide (n=33)&&(decide (s.phase=3)&&(decide (s.since=3)&&(decide (20 < s.b.length)&&(decide (s.b.length≤1000000)&&(s.b.take (pR s.b 15)==B1))))))=true:=by decide+kernel
theorem ue(w:World)(hg:G1 w):Calls Tryz.prog 9 #[] w fun e w'=>e=.returned (.bool true)∧Sm No w w':=by
 have HP:=aa (lF w);have HSt:=aa (fun (W:World) (h:Sm No w W)=>ud W (hg.no h) 2 256 (by decide) (by decide) (by decide));clear hg;obtain⟨s1,n1,hrun,hf⟩:=Ea Fo;simp only [Bool.and_eq_true,decide_eq_true_eq,beq_iff_eq] at hf;obtain⟨rfl,f1,f2,f3,f4,f5⟩:=hf;have kc:=fun (w:World) (C:Array Value) (n c:Nat)=>Lib.run_convert_bytes_const (P:=Tryz.prog) w 34 5 C n c Tryz.underlying34 Tryz.underlying5;go_in;go_wp2_with fail;refine HP.out.mono ?_;rintro e w1 ⟨rfl,hs1⟩;have H1:=aa hs1;clear hs1;go_wp2_with fail;refine(HSt.out w1 H1.out).mono ?_;rintro e w2 ⟨b,c,z,D,x,rfl,hI,hB,hN,hs2⟩;have hb:eG w1 w2 D b c z G6 (Cn.new 0):=⟨hI,⟨_,hB⟩,hN⟩;obtain⟨q0,q1,lb,lc⟩:=hb.cells;have H2:=aa (ab hb (H1.out.tt hs2));clear hI hB hN hs2 hb;go_wp2_with fail;refine(H2.out.1.pushN (E1 2 256) hrun rfl (by decide)).mono ?_;rintro e w3 ⟨rfl,D3,hb3, -⟩;obtain⟨q2,q3,lb3,lc3⟩:=hb3.cells;have H3:=aa hb3;clear hb3 q0 q1 lb lc;go_wp2_with fail;refine(H3.out.phase f1 f2).mono ?_;rintro e w4 ⟨rfl,hs4⟩;have hb4:=H3.out.no hs4;obtain⟨q0,q1,lb,lc⟩:=hb4.cells;have H4:=aa hb4;clear hb4 hs4 q2 q3 lb3 lc3;go_wp2_with fail;refine H4.out.len.mono ?_;rintro e w5 ⟨rfl,rfl⟩;obtain⟨m,hm⟩:=ai s1.b.length;rw [hm];have j1:(20:Int) < (m:Int):=by omega
 have HN:=aa (ab hrun (ab f5 hm));clear hrun f5 hm;go_wp2_with fail;refine(H4.out.next f4 HN.out.2.1).mono ?_;rintro e w6 ⟨A,cp,rfl,hR, -,hs6⟩;have hb6:=H4.out.no hs6;have H6:=aa (ab hR hb6);clear hR hs6 hb6;go_wp2_with fail;refine(wC _ A (some ⟨w6.heap.size,0,none⟩) cp 15 B1 (H6.out.1.no ((Sm.refl No w6).alloc _)) (oJ w6 (aL B1).toArray 5 (15,16)) (by decide)).mono ?_;rintro e w7 ⟨rfl,hs7⟩;have H7:=aa ((H1.out.tt H6.out.2.sm).tt (((Sm.refl No w6).alloc _).trans hs7 (fun _ _ e=>e)));clear hs7;go_wp2_with fail;go_ret;exact⟨rfl,H7.out⟩
end Go.Proofs.YtadcjgopaadfjaaGreatDoor
