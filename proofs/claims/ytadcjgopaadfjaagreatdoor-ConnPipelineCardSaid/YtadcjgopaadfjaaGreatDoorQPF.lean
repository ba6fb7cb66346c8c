import Derived.Test.YtadcjgopaadfjaaGreatDoorQPgR
import Derived.Test.YtadcjgopaadfjaaGreatDoorQY
import Derived.Test.YtadcjgopaadfjaaGreatDoorQOR
import Derived.Test.YtadcjgopaadfjaaGreatDoorQPD
import Derived.Test.YtadcjgopaadfjaaGreatDoorQN
import Derived.Test.YtadcjgopaadfjaaGreatDoorQZ
set_option maxHeartbeats 16000000
set_option maxRecDepth 100000
namespace Go.Proofs.YtadcjgopaadfjaaGreatDoor
open Go.RowKit Go.Proofs
def eW.done:eW→Bool
 | .at _ _=>false
 |_=>true
def jc:eW→ah→eW × Nat
 |q,[]=>(q,0)
 | .at b p,c::r=>((jc (fM b p c) r).1,(jc (fM b p c) r).2+1)
 |q,_::_=>(q,0)
theorem ku{q:eW}(h:q.done=true)(t:ah):jc q t=(q,0):=by
 cases q with
 |«at» b p=>cases h
 |whole b=>cases t<;>rfl
 |bad s=>cases t<;>rfl
theorem BQ:∀ (t:ah) (q:eW),(jc q t).2≤t.length
 |[],q=>by cases q<;>exact Nat.le_refl _
 |c::r,q=>by
  cases q with
  |«at» b p=>
   have:=BQ r (fM b p c);show (jc (fM b p c) r).2+1≤r.length+1;omega
  |whole b=>exact Nat.zero_le _
  |bad s=>exact Nat.zero_le _
theorem ip(h:Hd):∀ (t:ah) (q:eW),aS (dy h q) t=(dy h (jc q t).1,(jc q t).2)
 |[],q=>by cases q<;>rfl
 |c::r,q=>by
  cases q with
  |«at» b p=>
   rw [show dy h (.at b p)=.chunk h b p from rfl,da rfl,show lI (.chunk h b p) c=dy h (fM b p c) from rfl,ip h r (fM b p c)];rfl
  |whole b=>rfl
  |bad s=>rfl
def xf:eW→Prop
 | .at b p=>lN b p
 | .whole _=>True
 | .bad s=>s≠0
theorem pu.bk{w:World}{O:Nat→Prop}{g:Nat}{q:eW}(h:pu w O g q):∃ st vL left vB vT e,Bk w g 244 #[.int .i64 st,vL,.int .i64 left,vB,vT,.int .i64 e,.bool q.wh,.int .i64 q.sta]:=by
 cases q with
 |«at» b p=>obtain⟨a1,a2,a3,a4,h,d⟩:=h;exact⟨_,_,_,_,_,_,h.bk⟩
 |whole b=>obtain⟨a1,a2,a3,a4,a5,a6,a7,a8,h⟩:=h;exact⟨_,_,_,_,_,_,h.bk⟩
 |bad s=>obtain⟨a1,a2,a3,a4,a5,a6,a7,a8,a9,h⟩:=h;exact⟨_,_,_,_,_,_,h.bk⟩
theorem pu.imp{w:World}{O P:Nat→Prop}{g:Nat}{q:eW}(h:pu w O g q)(k:∀ x,O x→P x)(lt:∀ x,P x→x < w.heap.size):pu w P g q:=by
 cases q with
 |«at» b p=>obtain⟨a1,a2,a3,a4,h,d⟩:=h;exact⟨a1,a2,a3,a4,h.imp k lt,d⟩
 |whole b=>obtain⟨a1,a2,a3,a4,a5,a6,a7,a8,h⟩:=h;exact⟨a1,a2,a3,a4,a5,a6,a7,a8,h.imp k lt⟩
 |bad s=>obtain⟨a1,a2,a3,a4,a5,a6,a7,a8,a9,h⟩:=h;exact⟨a1,a2,a3,a4,a5,a6,a7,a8,a9,h.imp k lt⟩
theorem pu.sm{w w':World}{O S:Nat→Prop}{g:Nat}{q:eW}(h:pu w O g q)(hs:Sm S w w')(hS:∀ x,O x→¬S x):pu w' O g q:=by
 cases q with
 |«at» b p=>obtain⟨a1,a2,a3,a4,h,d⟩:=h;exact⟨a1,a2,a3,a4,h.sm hs hS,d⟩
 |whole b=>obtain⟨a1,a2,a3,a4,a5,a6,a7,a8,h⟩:=h;exact⟨a1,a2,a3,a4,a5,a6,a7,a8,h.sm hs hS⟩
 |bad s=>obtain⟨a1,a2,a3,a4,a5,a6,a7,a8,a9,h⟩:=h;exact⟨a1,a2,a3,a4,a5,a6,a7,a8,a9,h.sm hs hS⟩
theorem pu.lt{w:World}{O:Nat→Prop}{g:Nat}{q:eW}(h:pu w O g q):(∀ x,O x→x < w.heap.size)∧O g:=by
 cases q with
 |«at» b p=>obtain⟨a1,a2,a3,a4,h,d⟩:=h;exact⟨h.lt,h.og⟩
 |whole b=>obtain⟨a1,a2,a3,a4,a5,a6,a7,a8,h⟩:=h;exact⟨h.lt,h.og⟩
 |bad s=>obtain⟨a1,a2,a3,a4,a5,a6,a7,a8,a9,h⟩:=h;exact⟨h.lt,h.og⟩
def D0(w:World)(O:Nat→Prop)(g:Nat)(p:eW × Nat)(e:Ending)(w':World):Prop:=
 e=.returned (.tuple #[.int .i64 p.2,.bool p.1.wh,.int .i64 p.1.sta])∧pu w' (be O w w') g p.1∧xf p.1∧Sm O w w'
def G8(w:World)(O:Nat→Prop)(g:Nat)(s:eW)(l:ah)(nv:Value)(wr:World):Prop:=
 ∃ (k:Nat) (q:eW),k≤l.length∧nv=.int .i64 k∧jc s l=((jc q (l.drop k)).1,(jc q (l.drop k)).2+k)∧xf q∧pu wr (be O w wr) g q∧Sm O w wr
theorem FP{s:eW}{b:ah}{p:dG}{l:ah}{k:Nat}(h:jc s l=((jc (.at b p) (l.drop k)).1,(jc (.at b p) (l.drop k)).2+k))(hk:k < l.length):
 jc s l=((jc (fM b p l[k]) (l.drop (k+1))).1,(jc (fM b p l[k]) (l.drop (k+1))).2+(k+1)):=by
 rw [h,List.drop_eq_getElem_cons hk];show ((jc (fM b p l[k]) _).1,(jc (fM b p l[k]) _).2+1+k)=_;simp only [Prod.mk.injEq,true_and];omega
theorem El{b:ah}{p:dG}{c:UInt8}(h:lN b p):xf (fM b p c):=by
 cases hr:fM b p c with
 |«at» b' p'=>exact uP h hr
 |whole b'=>trivial
 |bad s=>exact E3 (Eh b p c s hr)
theorem uc (w:World) (O:Nat→Prop) (g:Nat) (b:ah) (p:dG) (A:Option Addr) (cp:Nat) (l:ah) (hI:DV w O g b p) (ho:lN b p)
 (hR:ax w A (l.map aU)) (hA:∀ a,A=some a→l≠[]→¬O a.block) (hl:l.length≤1000000):
 Calls Tryz.prog 154 #[.pointer (some ⟨g,0,none⟩),.slice A l.length cp] w (D0 w O g (jc (.at b p) l)):=by
 have hQ:pu w O g (.at b p):=hI;have hlt:=hQ.lt;have H:=aa (ab hQ (ab ho (ab hR hA)));have HL:=aa hlt;obtain⟨P,hP⟩:=ai (jc (.at b p) l);rw [hP];have HP:=aa hP;have hgl:=hlt.1 g hlt.2;clear hI ho hR hA hP hQ hlt;go_in;go_wp2_with fail
 go_loopw [4] (fun n wr=>G8 w O g (.at b p) l n wr) (fun n _=>l.length-(intOf n).toNat)
 case atStart=>exact⟨0,.at b p,Nat.zero_le _,rfl,by simp,H.out.2.1,H.out.1.imp (fun x e=>Or.inl e) (be.lt HL.out.1 (Nat.le_refl _)),Sm.refl _ _⟩
 case round=>
  obtain⟨k,q,hk,rfl,hf,ho',hQ,hsm⟩:=hrel;obtain⟨st,vL,left,vB,vT,e0,hK⟩:=hQ.bk;have hgl2:=hK.lt;have hc:=hK.all;have hz:=hK.fz;have HI:=aa (ab hf (ab ho' (ab hQ hsm)));clear hf ho' hQ hsm hK;have j0:(0:Int)≤(k:Int):=by omega
  have hend:∀ (_:jc (.at b p) l=(q,k)),Hid (P=(q,k)):=fun h=>aa (HP.out.symm.trans h);by_cases hlt:k < l.length
  ·have j1:(k:Int) < (l.length:Int):=by omega
   cases q with
   |«at» b' p'=>
    obtain⟨bb,off,hAe,hbb,r1⟩:=(H.out.2.2.1.sm HI.out.2.2.2 (fun a e=>H.out.2.2.2 a e (fun h0=>by rw [h0] at hlt;exact absurd hlt (Nat.not_lt_zero _)))).at (j:=k) (u:=.int .u8 (l[k]).toNat) (by simp [hlt,aU]);subst hAe;obtain⟨c,hcc⟩:=ai (l[k]);rw [hcc] at r1;have HN:=aa (show jc (.at b p) l=((jc (fM b' p' c) (l.drop (k+1))).1,(jc (fM b' p' c) (l.drop (k+1))).2+(k+1)) from by rw [←hcc];exact FP HI.out.1 hlt);have HO:=aa (ui wr (be O w wr) g b' p' c HI.out.2.2.1 HI.out.2.1);clear hcc hend;dsimp only [eW.wh,eW.sta] at hc;go_wp2_with fail;refine HO.out.mono ?_;rintro e w2 ⟨rfl,hI2,hs2⟩;have H2:=aa (ab (hI2.imp (be.up HI.out.2.2.2.size hs2.size) (be.lt HL.out.1 (Nat.le_trans HI.out.2.2.2.size hs2.size))) (HI.out.2.2.2.up hs2));clear hI2 hs2 hc r1 hz;go_wp2_with fail;exact⟨⟨k+1,fM b' p' c,by omega,by go_num,HN.out,El HI.out.2.1,H2.out.1,H2.out.2⟩,by simp [intOf];omega⟩
   |whole b'=>
    have HF:=hend (by rw [HI.out.1,ku rfl];simp);clear hend;dsimp only [eW.wh,eW.sta] at hc;go_wp2_with fail;go_quiet (fail);go_wp2_with fail;exact bodyPost_ret (v:=.tuple #[.int .i64 k,.bool true,.int .i64 0]) (by simp [results,Tryz.results154,go_sem]) rfl (by rw [HF.out];exact⟨rfl,(HI.out.2.2.1.sm ((Sm.refl No wr).drewN _) (fun _ _ e=>e)).imp (fun _ e=>e) (be.lt HL.out.1 HI.out.2.2.2.size),trivial,HI.out.2.2.2.drewN _⟩)
   |bad s=>
    have HF:=hend (by rw [HI.out.1,ku rfl];simp);clear hend;dsimp only [eW.wh,eW.sta] at hc;have e0:(s==0)=false:=by have:=HI.out.2.1;simpa [xf] using this
    go_wp2_with fail;go_quiet (fail);go_wp2_with fail;exact bodyPost_ret (v:=.tuple #[.int .i64 k,.bool false,.int .i64 s]) (by simp [results,Tryz.results154,go_sem]) rfl (by rw [HF.out];exact⟨rfl,(HI.out.2.2.1.sm ((Sm.refl No wr).drewN _) (fun _ _ e=>e)).imp (fun _ e=>e) (be.lt HL.out.1 HI.out.2.2.2.size),HI.out.2.1,HI.out.2.2.2.drewN _⟩)
  ·have hkl:k=l.length:=by omega
   have HF:=hend (by rw [HI.out.1,List.drop_of_length_le (by omega)];cases q<;>simp [jc]);subst hkl;clear hend;go_wp2_with fail;go_quiet (fail);go_wp2_with fail;exact bodyPost_ret (v:=.tuple #[.int .i64 l.length,.bool q.wh,.int .i64 q.sta]) (by simp [results,Tryz.results154,go_sem]) rfl (by rw [HF.out];exact⟨rfl,(HI.out.2.2.1.sm ((Sm.refl No wr).drewN _) (fun _ _ e=>e)).imp (fun _ e=>e) (be.lt HL.out.1 HI.out.2.2.2.size),HI.out.2.1,HI.out.2.2.2.drewN _⟩)
theorem yW(w:World):Calls Tryz.prog 200 #[] w fun e w'=>e=.returned (.pointer (some ⟨w.heap.size,0,none⟩))∧Sm No w w'∧DV w' (fun x=>x=w.heap.size) w.heap.size [] (.size []):=by
 go_in;go_wp2_with fail;go_ret;have hb:=Bk.new w 244 #[.int .i64 0,.slice none 0 0,.int .i64 0,.slice none 0 0,.slice none 0 0,.int .i64 0,.bool false,.int .i64 0];exact⟨rfl,(Sm.refl No w).alloc _,_,_,_,0,⟨hb,aG.nil _ _,aG.nil _ _,World.ownsRow_nil _ _ _ _,(fun x e=>by cases e),rfl,(fun x e=>by cases e),(fun x e=>by cases e),(fun x e=>by cases e),(fun x e=>by rw [e];exact hb.lt)⟩,trivial⟩
theorem uj(w:World)(O:Nat→Prop)(g:Nat)(b:ah)(hQ:pu w O g (.whole b))(hb:b.length≤1000000):
 Calls Tryz.prog 155 #[.pointer (some ⟨g,0,none⟩)] w fun e w'=>∃ v,e=.returned v∧je w' w.heap.size 5 v b∧Sm No w w':=by
 obtain⟨vB,vT,vL,left,st,L,ends,ts,hI⟩:=hQ;obtain⟨A,cp,hv,hR, -,h0⟩:=hI.body.slice;subst hv;have hgl:=hI.bk.lt;have hcg:=hI.bk.all;have hzg:=hI.bk.fz;have HC:=aa (gK w A cp b hR (fun e=>by
  have:=h0 e;have h1:=hI.body.slice;subst e;rcases hI.body.2 with ⟨h2,h3⟩|⟨_,_,_,h2,_⟩
  ·injection h2 with _ h4 h5;exact⟨h3,h5⟩
  ·injection h2 with h2;cases h2) hb)
 clear hI hR h0;go_in;go_wp2_with fail;refine HC.out.mono ?_;rintro e w2 ⟨v,rfl,h2⟩;have H2:=aa h2;clear h2;go_wp2_with fail;go_ret;exact⟨v,rfl,H2.out⟩
def Bz(w:World)(e:Ending)(w':World):Prop:=∃ g f v,e=.returned (.pointer (some ⟨g,0,none⟩))∧bl w' w.heap.size g f v Hd.new∧w.heap.size≤g∧w.heap.size≤f∧Sm No w w'
theorem CS(w:World):Calls Tryz.prog 77 #[] w (Bz w):=by
 have HO:=aa (wz w [] none 0 (fun k hk=>absurd hk (Nat.not_lt_zero _)) (fun x hx=>by cases hx) (by decide));go_in;go_wp2_with fail;refine HO.out.mono ?_;rintro e w2 ⟨f,v,rfl,hf,hF, -,hs⟩;have HF:=aa (ab hf (ab hF hs));clear hf hF hs;go_wp2_with fail;go_ret;obtain⟨hf,hF,hs⟩:=HF.out;have hfl:=hF.1.lt;have hvl:=fun b e=>(World.ownsRow.lt hF.2.1 b e).2;have hb:=Bk.new w2 187 (jS f Hd.new);have hF2:aA (w2.alloc (.cells (jS f Hd.new) 187)) w.heap.size f 214 v []:=hF.no ((Sm.refl No w2).alloc _);exact⟨w2.heap.size,f,v,rfl,⟨hb,hF2,by omega,fun e=>absurd (hvl _ e) (Nat.lt_irrefl _)⟩,hs.size,hf,hs.alloc _⟩
def xu(t:Tg):Value:=.agg #[.int .i64 t.form,.string ⟨t.host.toArray⟩,.string ⟨t.path.toArray⟩,.string ⟨t.query.toArray⟩]
theorem nA(w:World)(B g f:Nat)(v:Value)(h:Hd)(hI:bl w B g f v h):
 Calls Tryz.prog 128 #[.pointer (some ⟨g,0,none⟩)] w fun e w'=>e=.returned (.tuple #[.string ⟨h.method.toArray⟩,xu h.target,.int .i64 h.minor])∧Sm No w w':=by
 have hgl:=hI.bk.lt;obtain⟨b0,hb0⟩:=ai w.heap.size;obtain⟨w1,hw1⟩:∃ w1,w.alloc (.cells #[.int .i64 0,.string ⟨#[]⟩,.string ⟨#[]⟩,.string ⟨#[]⟩] 170)=w1:=⟨_,rfl⟩;have hs1:Sm No w w1:=by rw [←hw1];exact(Sm.refl No w).alloc _
 have hb1:Bk w1 b0 170 #[.int .i64 0,.string ⟨#[]⟩,.string ⟨#[]⟩,.string ⟨#[]⟩]:=by rw [←hw1,←hb0];exact Bk.new w _ _
 have hI1:=hI.no hs1;have hc:=hI1.bk.all;have hz:=hI1.bk.fz;have hgl1:=hI1.bk.lt;unfold jS at hc;have g1:=hc 1;have g2:=hc 2;have g3:=hc 3;have g4:=hc 4;have g5:=hc 5;have g6:=hc 6;have d0:=hb1.at 0 rfl;have d1:=hb1.at 1 rfl;have d2:=hb1.at 2 rfl;have d3:=hb1.at 3 rfl;have hz1:=hb1.fz;have hl1:=hb1.lt;have hne:b0≠g:=by omega
 have hne2:g≠b0:=by omega
 have H:=aa (ab hw1 (ab hs1 (ab hb1 hb0)));unfold xu;clear hI hw1 hs1 hb1 hI1 hc hb0;go_in;go_upto_region 3 with fail;rw [H.out.1,H.out.2.2.2]
 go_region
 all_goals
  go_wp2_with fail;have hbF:=((((H.out.2.2.1.set 0 (.int .i64 h.target.form)).set 1 (.string ⟨h.target.host.toArray⟩)).set 2 (.string ⟨h.target.path.toArray⟩)).set 3 (.string ⟨h.target.query.toArray⟩)).drew;have c0:=hbF.at 0 (v:=.int .i64 h.target.form) rfl;have c1:=hbF.at 1 (v:=.string ⟨h.target.host.toArray⟩) rfl;have c2:=hbF.at 2 (v:=.string ⟨h.target.path.toArray⟩) rfl;have c3:=hbF.at 3 (v:=.string ⟨h.target.query.toArray⟩) rfl;exact bodyPost_ret (v:=.tuple #[.string ⟨h.method.toArray⟩,.agg #[.int .i64 h.target.form,.string ⟨h.target.host.toArray⟩,.string ⟨h.target.path.toArray⟩,.string ⟨h.target.query.toArray⟩],.int .i64 h.minor]) (by simp [results,Tryz.results128,go_sem,c0,c1,c2,c3]) rfl ⟨rfl,((((H.out.2.1.setN (Nat.le_of_eq H.out.2.2.2) 0 _).setN (Nat.le_of_eq H.out.2.2.2) 1 _).setN (Nat.le_of_eq H.out.2.2.2) 2 _).setN (Nat.le_of_eq H.out.2.2.2) 3 _).drew⟩
theorem mw(w:World)(B g f:Nat)(v:Value)(h:Hd)(hI:bl w B g f v h):
 Calls Tryz.prog 126 #[.pointer (some ⟨g,0,none⟩)] w fun e w'=>e=.returned (qC h.how)∧Sm No w w':=by
 have hgl:=hI.bk.lt;have hc:=hI.bk.all;have hz:=hI.bk.fz;unfold jS at hc;unfold qC;clear hI;go_in;go_wp2_with fail;have hb:=Bk.new w 185 #[.int .i64 h.how.kind,.int .i64 h.how.len,.bool h.how.close,.bool h.how.expect];have c0:=hb.at 0 rfl;have c1:=hb.at 1 rfl;have c2:=hb.at 2 rfl;have c3:=hb.at 3 rfl;exact bodyPost_ret (v:=.agg #[.int .i64 h.how.kind,.int .i64 h.how.len,.bool h.how.close,.bool h.how.expect]) (by simp [results,Tryz.results126,go_sem,c0,c1,c2,c3]) rfl ⟨rfl,(Sm.refl No w).alloc _⟩
def dG.fedB(p:dG)(b:Nat):Int:=match p with
 | .size l=>69 * b+l.length
 | .data _=>69 * b+66
 | .tail k=>69 * b-2+k
 | .trail l e _=>69 * b+66+e+l.length
def fw(b:ah)(p:dG):Bool:=b.isEmpty&&p.fresh
structure mX (b:ah) (p:dG) (fed:Int):Prop where
 lo:0≤fed
 hi:fed≤p.fedB b.length
 zero:fed=0↔fw b p=true
theorem mX.bd{b:ah}{p:dG}{fed:Int}(h:mX b p fed)(ho:lN b p):fed≤200000:=by
 have h1:=h.hi;have h2:=ho.body;have h3:=ho.pl;unfold dG.fedB at h1
 cases p with
 |size l=>have:l.length≤65:=h3;dsimp only at h1;omega
 |data n=>dsimp only at h1;omega
 |tail k=>have:k≤1:=h3.1;dsimp only at h1;omega
 |trail l e ts=>have:l.length≤257∧e≤512:=⟨h3.1,h3.2.1⟩;dsimp only at h1;omega
theorem zI:mX [] (.size []) 0:=⟨by decide,by decide,by decide⟩
theorem Ds{b b':ah}{p p':dG}{c:UInt8}(ho:lN b p)(h:fM b p c=.at b' p'):p.fedB b.length+1≤p'.fedB b'.length∧fw b' p'=false:=by
 have ha:=ho.pl
 cases p with
 |data n=>
  rw [gu] at h;injection h with h3 h4;subst h3 h4;refine⟨?_,by unfold fw;simp⟩;by_cases h1:n=1
  ·rw [if_pos h1];unfold dG.fedB;dsimp only;rw [List.length_append,List.length_singleton];omega
  ·rw [if_neg h1];unfold dG.fedB;dsimp only;rw [List.length_append,List.length_singleton];omega
 |tail k=>
  have e:fM b (.tail k) c=if c=(if k=0 then 13 else 10) then .at b (if k=0 then .tail 1 else .size []) else .bad 400:=rfl;have hb:b.isEmpty=false:=by
   have:=ha.2
   cases b with
   |nil=>exact absurd rfl this
   |cons=>rfl
  rw [e] at h;by_cases hc:c=(if k=0 then 13 else 10)
  ·rw [if_pos hc] at h;injection h with h3 h4;subst h3 h4;refine⟨?_,by unfold fw;rw [hb];rfl⟩;have:=ha.1;by_cases hk:k=0
   ·rw [if_pos hk];unfold dG.fedB;dsimp only;omega
   ·rw [if_neg hk];unfold dG.fedB;dsimp only [List.length_nil];omega
  ·rw [if_neg hc] at h
   cases h
 |size l=>
  have hl:l.length≤65:=ha;rw [fG] at h;split at h
  ·split at h
   ·cases h
   ·unfold dM at h;split at h
    ·cases h
    ·split at h
     ·cases h
     ·split at h
      ·cases h
      ·split at h
       ·injection h with h1 h2;subst h1 h2;exact⟨by unfold dG.fedB;dsimp only [List.length_nil];omega,by unfold fw;simp [dG.fresh]⟩
       ·injection h with h1 h2;subst h1 h2;exact⟨by unfold dG.fedB;dsimp only;omega,by unfold fw;simp [dG.fresh]⟩
  ·split at h
   ·cases h
   ·injection h with h3 h4;subst h3 h4;refine⟨by unfold dG.fedB;dsimp only;rw [List.length_append,List.length_singleton];omega,?_⟩;have:(dG.size (l++[c])).fresh=false:=by
     cases l<;>rfl
    unfold fw;rw [this];simp
 |trail l e ts=>
  rw [ej] at h;split at h
  ·split at h
   ·cases h
   ·rename_i s hs
    have hls:l.length=s.length+1:=by rw [qm hs];simp
    unfold cM at h;split at h
    ·cases h
    ·split at h
     ·cases h
     ·split at h
      ·cases h
      ·injection h with h1 h2;subst h1 h2;exact⟨by unfold dG.fedB;dsimp only [List.length_nil];omega,by unfold fw;simp [dG.fresh]⟩
  ·split at h
   ·cases h
   ·injection h with h3 h4;subst h3 h4;exact⟨by unfold dG.fedB;dsimp only;rw [List.length_append,List.length_singleton];omega,by unfold fw;simp [dG.fresh]⟩
theorem wY:∀ (l:ah) {b b':ah} {p p':dG} {fed:Int} {n:Nat},lN b p→mX b p fed→jc (.at b p) l=(.at b' p',n)→mX b' p' (fed+n)
 |[],b,b',p,p',fed,n,_,hf,h=>by
  injection h with h1 h2;injection h1 with h1 h3;subst h1 h3 h2;simpa using hf
 |c::r,b,b',p,p',fed,n,ho,hf,h=>by
  have h:((jc (fM b p c) r).1,(jc (fM b p c) r).2+1)=(eW.at b' p',n):=h;injection h with h1 h2
  cases hr:fM b p c with
  |«at» b1 p1=>
   rw [hr] at h1 h2;obtain⟨k1,k2⟩:=Ds ho hr;have hf1:mX b1 p1 (fed+1):=by
    have:=hf.lo;have:=hf.hi;refine⟨by omega,by omega,⟨fun e=>by omega,fun e=>by rw [k2] at e;cases e⟩⟩
   have:=wY r (uP ho hr) hf1 (Prod.ext h1 rfl);rw [←h2];have e:fed+((((jc (.at b1 p1) r).2+1:Nat)):Int)=fed+1+(((jc (.at b1 p1) r).2:Nat):Int):=by omega
   rw [e];exact this
  |whole b1=>rw [hr,ku rfl] at h1;cases h1
  |bad s=>rw [hr,ku rfl] at h1;cases h1
structure BA (h:Hd):Prop where
 new:h.started=false→h.minor=0∧h.method=[]
 old:h.started=true→h.method≠[]
theorem DW:BA Hd.new:=⟨fun _=>⟨rfl,rfl⟩,fun e=>by cases e⟩
theorem BH{h:Hd}{l:List ah}(hm:BA h):BA (bH h l).1:=by
 unfold bH;split
 ·rename_i m s v
  split
  ·exact hm
  ·rename_i ht
   split
   ·exact hm
   ·split
    ·refine⟨fun e=>(by cases e),fun _ e=>ht ?_⟩;have e:m=[]:=e;rw [e];rfl
    ·exact hm
 ·exact hm
theorem En{h:Hd}{s:ah}(hm:BA h):BA (bA h s).1:=by
 unfold bA;split
 ·exact hm
 ·split
  ·exact⟨hm.new,hm.old⟩
  ·split
   ·split
    ·exact⟨hm.new,hm.old⟩
    ·exact BH ⟨hm.new,hm.old⟩
   ·split
    ·exact⟨hm.new,hm.old⟩
    ·unfold kL;split
     ·exact⟨hm.new,hm.old⟩
     ·exact⟨hm.new,hm.old⟩
theorem DL{h:Hd}{s:ah}(hm:BA h):BA (bw h s):=by
 unfold bw;split
 ·have:=En (s:=s) hm;exact⟨this.new,this.old⟩
 ·exact hm
def fB(w:World)(g:Nat)(ph sta:Int)(ln hd:Value)(left:Int)(vB ch:Value)(fed:Int):Prop:=Bk w g 152 #[.int .i64 ph,.int .i64 sta,ln,hd,.int .i64 left,vB,ch,.int .i64 fed]
structure cI (w:World) (O:Nat→Prop) (gh gf:Nat) (vF:Value) (h:Hd):Prop where
 ph:bl w 0 gh gf vF h
 og:O gh
 ogf:O gf
 of:∀ x,vF.ownBlock=some x→O x
def bD:Value:=.slice none 0 0
def jA(w:World)(O:Nat→Prop)(vL:Value)(L:ah):Prop:=aG w 0 vL L∧∀ y,vL.ownBlock=some y→O y
def EV(w:World)(O:Nat→Prop)(g:Nat):cP→Prop
 | .idle=>∃ gh gf vF vL,fB w g 0 0 vL (cn gh) 0 bD (.pointer none) 0∧cI w O gh gf vF Hd.new∧jA w O vL []
 | .head h L=>∃ gh gf vF vL,fB w g 1 0 vL (cn gh) 0 bD (.pointer none) 0∧cI w O gh gf vF h∧jA w O vL L∧BA h
 | .len h B=>∃ gh gf vF ln vB,fB w g 2 0 ln (cn gh) (h.how.len-B.length) vB (.pointer none) B.length∧cI w O gh gf vF h∧jA w O vB B
 | .chunk h B p=>∃ gh gf vF ln gr Or fed,fB w g 2 0 ln (cn gh) 0 bD (cn gr) fed∧cI w O gh gf vF h∧DV w Or gr B p∧(∀ y,Or y→O y)∧¬Or g∧¬Or gh∧¬Or gf∧(∀ y,vF.ownBlock=some y→¬Or y)∧mX B p fed
 | .whole h B=>∃ gh gf vF ln left vB ch fed,fB w g 3 0 ln (cn gh) left vB ch fed∧cI w O gh gf vF h∧je w 0 5 vB B∧∀ y,vB.ownBlock=some y→O y
 | .bad s=>∃ ln hd left vB ch fed,fB w g 4 s ln hd left vB ch fed
structure bZ (w:World) (O:Nat→Prop) (g:Nat) (s:cP):Prop where
 q:EV w O g s
 og:O g
 lt:∀ x,O x→x < w.heap.size
def dO(w:World)(O:Nat→Prop)(g:Nat)(s:cP)(e:Ending)(w':World):Prop:=e=.returned (.tuple #[])∧bZ w' (be O w w') g s∧Sm O w w'
section
variable {w w':World} {O S P:Nat→Prop} {g gh gf:Nat} {vF vL:Value} {h:Hd} {L:ah} {s:cP}
theorem bl.sm(k:bl w 0 gh gf vF h)(hs:Sm S w w')(h1:¬S gh)(h2:¬S gf)(h3:∀ x,vF.ownBlock=some x→¬S x):bl w' 0 gh gf vF h:=
 ⟨k.bk.sm hs h1,k.fs.sm hs h2 h3,k.ne,k.own⟩
theorem cI.sm(k:cI w O gh gf vF h)(hs:Sm S w w')(h1:¬S gh)(h2:¬S gf)(h3:∀ x,vF.ownBlock=some x→¬S x):cI w' O gh gf vF h:=⟨k.ph.sm hs h1 h2 h3,k.og,k.ogf,k.of⟩
theorem cI.no(k:cI w O gh gf vF h)(hs:Sm No w w'):cI w' O gh gf vF h:=k.sm hs (fun e=>e) (fun e=>e) (fun _ _ e=>e)
theorem cI.out(k:cI w O gh gf vF h)(hs:Sm S w w')(hS:∀ x,O x→¬S x):cI w' O gh gf vF h:=k.sm hs (hS _ k.og) (hS _ k.ogf) (fun x e=>hS x (k.of x e))
theorem cI.imp(k:cI w O gh gf vF h)(hi:∀ x,O x→P x):cI w P gh gf vF h:=⟨k.ph,hi _ k.og,hi _ k.ogf,fun x e=>hi x (k.of x e)⟩
theorem jA.imp(k:jA w O vL L)(hi:∀ x,O x→P x):jA w P vL L:=⟨k.1,fun y e=>hi y (k.2 y e)⟩
theorem jA.out(k:jA w O vL L)(hs:Sm S w w')(hS:∀ x,O x→¬S x):jA w' O vL L:=⟨ae k.1 hs (fun x e=>hS x (k.2 x e)),k.2⟩
theorem cI.own{t:TypeId}{cs:Array Value}(k:cI w O gh gf vF h)(hb:Bk w g t cs)(ht:t=152)(hs:Sm (fun x=>x=g) w w'):cI w' O gh gf vF h:=by
 subst ht;refine k.sm hs (fun e=>tO k.ph.bk hb (by decide) e) (fun e=>tO k.ph.fs.1 hb (by decide) e) (fun x e e2=> ?_);subst e2;exact am k.ph.fs.2.1 hb (by decide) e
theorem jA.own{t:TypeId}{cs:Array Value}(k:jA w O vL L)(hb:Bk w g t cs)(ht:t=152)(hs:Sm (fun x=>x=g) w w'):jA w' O vL L:=by
 subst ht;exact⟨ae k.1 hs (fun x e e2=>by subst e2;exact am k.1 hb (by decide) e),k.2⟩
theorem EV.imp(h:EV w O g s)(hi:∀ x,O x→P x):EV w P g s:=by
 cases s with
 |idle=>obtain⟨a1,a2,a3,a4,h1,h2,h3⟩:=h;exact⟨a1,a2,a3,a4,h1,h2.imp hi,h3.imp hi⟩
 |head h' L=>obtain⟨a1,a2,a3,a4,h1,h2,h3,h4⟩:=h;exact⟨a1,a2,a3,a4,h1,h2.imp hi,h3.imp hi,h4⟩
 |len h' B=>obtain⟨a1,a2,a3,a4,a5,h1,h2,h3⟩:=h;exact⟨a1,a2,a3,a4,a5,h1,h2.imp hi,h3.imp hi⟩
 |chunk h' B p=>obtain⟨a1,a2,a3,a4,a5,a6,a7,h1,h2,h3,h4,h5⟩:=h;exact⟨a1,a2,a3,a4,a5,a6,a7,h1,h2.imp hi,h3,fun y e=>hi y (h4 y e),h5⟩
 |whole h' B=>obtain⟨a1,a2,a3,a4,a5,a6,a7,a8,h1,h2,h3,h4⟩:=h;exact⟨a1,a2,a3,a4,a5,a6,a7,a8,h1,h2.imp hi,h3,fun y e=>hi y (h4 y e)⟩
 |bad s=>exact h
theorem EV.out(h:EV w O g s)(og:O g)(hs:Sm S w w')(hS:∀ x,O x→¬S x):EV w' O g s:=by
 have hg:=hS g og
 cases s with
 |idle=>obtain⟨a1,a2,a3,a4,h1,h2,h3⟩:=h;exact⟨a1,a2,a3,a4,Bk.sm h1 hs hg,h2.out hs hS,h3.out hs hS⟩
 |head h' L=>obtain⟨a1,a2,a3,a4,h1,h2,h3,h4⟩:=h;exact⟨a1,a2,a3,a4,Bk.sm h1 hs hg,h2.out hs hS,h3.out hs hS,h4⟩
 |len h' B=>obtain⟨a1,a2,a3,a4,a5,h1,h2,h3⟩:=h;exact⟨a1,a2,a3,a4,a5,Bk.sm h1 hs hg,h2.out hs hS,h3.out hs hS⟩
 |chunk h' B p=>
  obtain⟨a1,a2,a3,a4,a5,a6,a7,h1,h2,h3,h4,h5⟩:=h;have h3':pu w a6 a5 (.at B p):=h3;exact⟨a1,a2,a3,a4,a5,a6,a7,Bk.sm h1 hs hg,h2.out hs hS,h3'.sm hs (fun x e=>hS x (h4 x e)),h4,h5⟩
 |whole h' B=>obtain⟨a1,a2,a3,a4,a5,a6,a7,a8,h1,h2,h3,h4⟩:=h;exact⟨a1,a2,a3,a4,a5,a6,a7,a8,Bk.sm h1 hs hg,h2.out hs hS,aH.sm h3 hs (fun b e=>hS b (h4 b e)),h4⟩
 |bad s=>obtain⟨a1,a2,a3,a4,a5,a6,h1⟩:=h;exact⟨a1,a2,a3,a4,a5,a6,Bk.sm h1 hs hg⟩
theorem bZ.out(h:bZ w O g s)(hs:Sm S w w')(hS:∀ x,O x→¬S x):bZ w' O g s:=⟨h.q.out h.og hs hS,h.og,fun x e=>Nat.lt_of_lt_of_le (h.lt x e) hs.size⟩
theorem bZ.no(h:bZ w O g s)(hs:Sm No w w'):bZ w' O g s:=h.out hs (fun _ _ e=>e)
theorem bZ.imp(h:bZ w O g s)(hi:∀ x,O x→P x)(lt:∀ x,P x→x < w.heap.size):bZ w P g s:=⟨h.q.imp hi,hi _ h.og,lt⟩
theorem bZ.cells(h:bZ w O g s):∃ ln hd left vB ch fed,fB w g s.phase s.status ln hd left vB ch fed:=by
 have h:=h.q
 cases s with
 |idle=>obtain⟨a1,a2,a3,a4,h1,_⟩:=h;exact⟨_,_,_,_,_,_,h1⟩
 |head h' L=>obtain⟨a1,a2,a3,a4,h1,_⟩:=h;exact⟨_,_,_,_,_,_,h1⟩
 |len h' B=>obtain⟨a1,a2,a3,a4,a5,h1,_⟩:=h;exact⟨_,_,_,_,_,_,h1⟩
 |chunk h' B p=>obtain⟨a1,a2,a3,a4,a5,a6,a7,h1,_⟩:=h;exact⟨_,_,_,_,_,_,h1⟩
 |whole h' B=>obtain⟨a1,a2,a3,a4,a5,a6,a7,a8,h1,_⟩:=h;exact⟨_,_,_,_,_,_,h1⟩
 |bad s=>obtain⟨a1,a2,a3,a4,a5,a6,h1⟩:=h;exact⟨_,_,_,_,_,_,h1⟩
end
theorem dO.up{w w1 w2:World}{O:Nat→Prop}{g:Nat}{s:cP}{e:Ending}(h:dO w1 (be O w w1) g s e w2)(lt:∀ x,O x→x < w.heap.size)(og:O g)(hs:Sm O w w1):dO w O g s e w2:=
 ⟨h.1,⟨h.2.1.q.imp (be.up hs.size h.2.2.size),Or.inl og,be.lt lt (Nat.le_trans hs.size h.2.2.size)⟩,hs.up h.2.2⟩
theorem bZ.badOf{w w1:World}{O:Nat→Prop}{g:Nat}{s:Int}{ln hd vB ch:Value}{left fed:Int}(og:O g)(lt:∀ x,O x→x < w.heap.size)(hs:Sm O w w1)(hb:fB w1 g 4 s ln hd left vB ch fed):dO w O g (.bad s) (.returned (.tuple #[])) w1:=
 ⟨rfl,⟨⟨_,_,_,_,_,_,hb⟩,Or.inl og,be.lt lt hs.size⟩,hs⟩
theorem de(w:World)(g:Nat)(s:Int)(hs:s≠0){ph sta left fed:Int}{ln hd vB ch:Value}(hb:fB w g ph sta ln hd left vB ch fed):
 Calls Tryz.prog 156 #[.pointer (some ⟨g,0,none⟩),.int .i64 s] w fun e w'=>e=.returned (.tuple #[])∧fB w' g 4 s ln hd left vB ch fed∧Sm (fun x=>x=g) w w':=by
 have hgl:=Bk.lt hb;have hc:=Bk.all hb;have hz:=Bk.fz hb;have HB:=aa hb;have e0:(s==0)=false:=by simp [hs]
 have e1:(s != 0)=true:=by simp [hs]
 clear hb hs;go_in;go_wp2_with fail
 go_end0
 exact⟨rfl,((Bk.set HB.out 0 (.int .i64 4)).set 1 (.int .i64 s)).eq rfl,((Sm.refl _ w).set1 0 _).set1 1 _⟩
theorem jx(w:World)(g:Nat):Calls Tryz.prog 156 #[.pointer (some ⟨g,0,none⟩),.int .i64 0] w fun e w'=>e=.returned (.tuple #[])∧w=w':=by
 go_in;go_wp2_with fail
 go_end0
 exact⟨rfl,rfl⟩
theorem kd(w:World)(g gh gf:Nat)(vF:Value)(h:Hd)(hm:BA h){ph sta left fed:Int}{ln vB ch:Value}(hb:fB w g ph sta ln (cn gh) left vB ch fed)(hI:bl w 0 gh gf vF h):
 Calls Tryz.prog 178 #[.pointer (some ⟨g,0,none⟩)] w fun e w'=>e=.returned (.int .i64 h.long)∧Sm No w w':=by
 have hgl:=Bk.lt hb;have hc:=Bk.at hb 3 (v:=.pointer (some ⟨gh,0,none⟩)) rfl;have HS:=aa (nA w 0 gh gf vF h hI);have HM:=aa hm;clear hb hI hm;obtain⟨m,hmm⟩:=ai ((⟨h.method.toArray⟩:ByteArray));have hmt:m.toList=h.method:=by rw [ByteArray.toList_eq,←hmm]
 rw [hmm] at HS;unfold xu at HS
 cases hst:h.started with
 |false=>
  have e0:m.toList=[]:=by rw [hmt];exact(HM.out.new hst).2
  rw [show h.long=414 from by unfold Hd.long;rw [if_neg (by rw [hst];decide)]];clear hmm hmt hst;go_in;go_wp2_with fail;refine HS.out.mono ?_;rintro e w2 ⟨rfl,h2⟩;have H2:=aa (h2.alloc (.cells #[.int .i64 h.target.form,.string ⟨h.target.host.toArray⟩,.string ⟨h.target.path.toArray⟩,.string ⟨h.target.query.toArray⟩] 170));clear h2;go_wp2_with fail;go_ret;exact⟨rfl,H2.out⟩
 |true=>
  have e0:¬m.toList=[]:=by rw [hmt];exact HM.out.old hst
  have e1:m.toList.isEmpty=false:=by
   cases hh:m.toList with
   |nil=>exact absurd hh e0
   |cons=>rfl
  rw [show h.long=431 from by unfold Hd.long;rw [if_pos hst]];clear hmm hmt hst;go_in;go_wp2_with fail;refine HS.out.mono ?_;rintro e w2 ⟨rfl,h2⟩;have H2:=aa (h2.alloc (.cells #[.int .i64 h.target.form,.string ⟨h.target.host.toArray⟩,.string ⟨h.target.path.toArray⟩,.string ⟨h.target.query.toArray⟩] 170));clear h2;go_wp2_with fail;go_ret;exact⟨rfl,H2.out⟩
def F3(w:World)(e:Ending)(w':World):Prop:=∃ g,e=.returned (.pointer (some ⟨g,0,none⟩))∧bZ w' (fun x=>w.heap.size≤x∧x < w'.heap.size) g .idle∧Sm No w w'
theorem iP(w:World):Calls Tryz.prog 55 #[] w (F3 w):=by
 have HN:=aa (CS w);go_in;go_wp2_with fail;refine HN.out.mono ?_;rintro e w2 ⟨gh,gf,v,rfl,hI,h1,h2,hs⟩;have H2:=aa (ab hI (ab h1 (ab h2 hs)));clear hI h1 h2 hs;go_wp2_with fail;go_ret;obtain⟨hI,h1,h2,hs⟩:=H2.out;have hb:=Bk.new w2 152 #[.int .i64 0,.int .i64 0,.slice none 0 0,.pointer (some ⟨gh,0,none⟩),.int .i64 0,.slice none 0 0,.pointer none,.int .i64 0];have hs2:=hs.size;have l1:=hI.bk.lt;have l2:=hI.fs.1.lt;have hsz:(w2.alloc (.cells #[.int .i64 0,.int .i64 0,.slice none 0 0,.pointer (some ⟨gh,0,none⟩),.int .i64 0,.slice none 0 0,.pointer none,.int .i64 0] 152)).heap.size=w2.heap.size+1:=by simp
 have hI0:bl w2 0 gh gf v Hd.new:=⟨hI.bk,⟨hI.fs.1,bI hI.fs.2.1 (fun _ _=>Nat.zero_le _),hI.fs.2.2⟩,hI.ne,hI.own⟩;refine⟨w2.heap.size,rfl,⟨⟨gh,gf,v,.slice none 0 0,hb,⟨hI0.no ((Sm.refl No w2).alloc _),⟨h1,by omega⟩,⟨h2,by omega⟩,fun x e=> ?_⟩,aG.nil _ _,fun y e=>by cases e⟩,⟨hs2,by omega⟩,fun x e=>e.2⟩,hs.alloc _⟩;have:=World.ownsRow.lt hI.fs.2.1 x e;exact⟨this.1,by omega⟩
end Go.Proofs.YtadcjgopaadfjaaGreatDoor
