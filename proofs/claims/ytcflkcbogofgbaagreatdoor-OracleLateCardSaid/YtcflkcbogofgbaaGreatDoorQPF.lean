import Derived.Test.YtcflkcbogofgbaaGreatDoorQPgR
import Derived.Test.YtcflkcbogofgbaaGreatDoorQY
import Derived.Test.YtcflkcbogofgbaaGreatDoorQOR
import Derived.Test.YtcflkcbogofgbaaGreatDoorQPD
import Derived.Test.YtcflkcbogofgbaaGreatDoorQN
import Derived.Test.YtcflkcbogofgbaaGreatDoorQZ
set_option maxHeartbeats 16000000
set_option maxRecDepth 100000
namespace Go.Proofs.YtcflkcbogofgbaaGreatDoor
open Go.RowKit Go.Proofs
def ej.done:ej→Bool
 | .at _ _=>false
 |_=>true
def jI:ej→af→ej × Nat
 |q,[]=>(q,0)
 | .at b p,c::r=>((jI (db b p c) r).1,(jI (db b p c) r).2+1)
 |q,_::_=>(q,0)
theorem kW{q:ej}(h:q.done=true)(t:af):jI q t=(q,0):=by
 cases q with
 |«at» b p=>cases h
 |whole b=>cases t<;>rfl
 |bad s=>cases t<;>rfl
theorem CN:∀ (t:af) (q:ej),(jI q t).2≤t.length
 |[],q=>by cases q<;>exact Nat.le_refl _
 |c::r,q=>by
  cases q with
  |«at» b p=>
   have:=CN r (db b p c);show (jI (db b p c) r).2+1≤r.length+1;omega
  |whole b=>exact Nat.zero_le _
  |bad s=>exact Nat.zero_le _
theorem jr(h:Hd):∀ (t:af) (q:ej),au (dj h q) t=(dj h (jI q t).1,(jI q t).2)
 |[],q=>by cases q<;>rfl
 |c::r,q=>by
  cases q with
  |«at» b p=>
   rw [show dj h (.at b p)=.chunk h b p from rfl,bJ rfl,show fi (.chunk h b p) c=dj h (db b p c) from rfl,jr h r (db b p c)];rfl
  |whole b=>rfl
  |bad s=>rfl
def yq:ej→Prop
 | .at b p=>jK b p
 | .whole _=>True
 | .bad s=>s≠0
theorem qI.bk{w:World}{O:Nat→Prop}{g:Nat}{q:ej}(h:qI w O g q):∃ st vL left vB vT e,Bk w g 237 #[.int .i64 st,vL,.int .i64 left,vB,vT,.int .i64 e,.bool q.wh,.int .i64 q.sta]:=by
 cases q with
 |«at» b p=>obtain⟨a1,a2,a3,a4,h,d⟩:=h;exact⟨_,_,_,_,_,_,h.bk⟩
 |whole b=>obtain⟨a1,a2,a3,a4,a5,a6,a7,a8,h⟩:=h;exact⟨_,_,_,_,_,_,h.bk⟩
 |bad s=>obtain⟨a1,a2,a3,a4,a5,a6,a7,a8,a9,h⟩:=h;exact⟨_,_,_,_,_,_,h.bk⟩
theorem qI.imp{w:World}{O P:Nat→Prop}{g:Nat}{q:ej}(h:qI w O g q)(k:∀ x,O x→P x)(lt:∀ x,P x→x < w.heap.size):qI w P g q:=by
 cases q with
 |«at» b p=>obtain⟨a1,a2,a3,a4,h,d⟩:=h;exact⟨a1,a2,a3,a4,h.imp k lt,d⟩
 |whole b=>obtain⟨a1,a2,a3,a4,a5,a6,a7,a8,h⟩:=h;exact⟨a1,a2,a3,a4,a5,a6,a7,a8,h.imp k lt⟩
 |bad s=>obtain⟨a1,a2,a3,a4,a5,a6,a7,a8,a9,h⟩:=h;exact⟨a1,a2,a3,a4,a5,a6,a7,a8,a9,h.imp k lt⟩
theorem qI.sm{w w':World}{O S:Nat→Prop}{g:Nat}{q:ej}(h:qI w O g q)(hs:Sm S w w')(hS:∀ x,O x→¬S x):qI w' O g q:=by
 cases q with
 |«at» b p=>obtain⟨a1,a2,a3,a4,h,d⟩:=h;exact⟨a1,a2,a3,a4,h.sm hs hS,d⟩
 |whole b=>obtain⟨a1,a2,a3,a4,a5,a6,a7,a8,h⟩:=h;exact⟨a1,a2,a3,a4,a5,a6,a7,a8,h.sm hs hS⟩
 |bad s=>obtain⟨a1,a2,a3,a4,a5,a6,a7,a8,a9,h⟩:=h;exact⟨a1,a2,a3,a4,a5,a6,a7,a8,a9,h.sm hs hS⟩
theorem qI.lt{w:World}{O:Nat→Prop}{g:Nat}{q:ej}(h:qI w O g q):(∀ x,O x→x < w.heap.size)∧O g:=by
 cases q with
 |«at» b p=>obtain⟨a1,a2,a3,a4,h,d⟩:=h;exact⟨h.lt,h.og⟩
 |whole b=>obtain⟨a1,a2,a3,a4,a5,a6,a7,a8,h⟩:=h;exact⟨h.lt,h.og⟩
 |bad s=>obtain⟨a1,a2,a3,a4,a5,a6,a7,a8,a9,h⟩:=h;exact⟨h.lt,h.og⟩
def Fk(w:World)(O:Nat→Prop)(g:Nat)(p:ej × Nat)(e:Ending)(w':World):Prop:=
 e=.returned (.tuple #[.int .i64 p.2,.bool p.1.wh,.int .i64 p.1.sta])∧qI w' (aA O w w') g p.1∧yq p.1∧Sm O w w'
def I3(w:World)(O:Nat→Prop)(g:Nat)(s:ej)(l:af)(nv:Value)(wr:World):Prop:=
 ∃ (k:Nat) (q:ej),k≤l.length∧nv=.int .i64 k∧jI s l=((jI q (l.drop k)).1,(jI q (l.drop k)).2+k)∧yq q∧qI wr (aA O w wr) g q∧Sm O w wr
theorem GU{s:ej}{b:af}{p:df}{l:af}{k:Nat}(h:jI s l=((jI (.at b p) (l.drop k)).1,(jI (.at b p) (l.drop k)).2+k))(hk:k < l.length):
 jI s l=((jI (db b p l[k]) (l.drop (k+1))).1,(jI (db b p l[k]) (l.drop (k+1))).2+(k+1)):=by
 rw [h,List.drop_eq_getElem_cons hk];show ((jI (db b p l[k]) _).1,(jI (db b p l[k]) _).2+1+k)=_;simp only [Prod.mk.injEq,true_and];omega
theorem EV{b:af}{p:df}{c:UInt8}(h:jK b p):yq (db b p c):=by
 cases hr:db b p c with
 |«at» b' p'=>exact vD h hr
 |whole b'=>trivial
 |bad s=>exact B6 (ye b p c s hr)
theorem tD (w:World) (O:Nat→Prop) (g:Nat) (b:af) (p:df) (A:Option Addr) (cp:Nat) (l:af) (hI:FG w O g b p) (ho:jK b p)
 (hR:ar w A (l.map aM)) (hA:∀ a,A=some a→l≠[]→¬O a.block) (hl:l.length≤1000000):
 Calls Tryz.prog 151 #[.pointer (some ⟨g,0,none⟩),.slice A l.length cp] w (Fk w O g (jI (.at b p) l)):=by
 have hQ:qI w O g (.at b p):=hI;have hlt:=hQ.lt;have H:=ns (BT hQ (BT ho (BT hR hA)));have HL:=ns hlt;obtain⟨P,hP⟩:=Iu (jI (.at b p) l);rw [hP];have HP:=ns hP;have hgl:=hlt.1 g hlt.2;clear hI ho hR hA hP hQ hlt;go_in;go_wp2_with fail
 go_loopw [4] (fun n wr=>I3 w O g (.at b p) l n wr) (fun n _=>l.length-(intOf n).toNat)
 case atStart=>exact⟨0,.at b p,Nat.zero_le _,rfl,by simp,H.out.2.1,H.out.1.imp (fun x e=>Or.inl e) (aA.lt HL.out.1 (Nat.le_refl _)),Sm.refl _ _⟩
 case round=>
  obtain⟨k,q,hk,rfl,hf,ho',hQ,hsm⟩:=hrel;obtain⟨st,vL,left,vB,vT,e0,hK⟩:=hQ.bk;have hgl2:=hK.lt;have hc:=hK.all;have hz:=hK.fz;have HI:=ns (BT hf (BT ho' (BT hQ hsm)));clear hf ho' hQ hsm hK;have j0:(0:Int)≤(k:Int):=by omega
  have hend:∀ (_:jI (.at b p) l=(q,k)),Hid (P=(q,k)):=fun h=>ns (HP.out.symm.trans h);by_cases hlt:k < l.length
  ·have j1:(k:Int) < (l.length:Int):=by omega
   cases q with
   |«at» b' p'=>
    obtain⟨bb,off,hAe,hbb,r1⟩:=(H.out.2.2.1.sm HI.out.2.2.2 (fun a e=>H.out.2.2.2 a e (fun h0=>by rw [h0] at hlt;exact absurd hlt (Nat.not_lt_zero _)))).at (j:=k) (u:=.int .u8 (l[k]).toNat) (by simp [hlt,aM]);subst hAe;obtain⟨c,hcc⟩:=Iu (l[k]);rw [hcc] at r1;have HN:=ns (show jI (.at b p) l=((jI (db b' p' c) (l.drop (k+1))).1,(jI (db b' p' c) (l.drop (k+1))).2+(k+1)) from by rw [←hcc];exact GU HI.out.1 hlt);have HO:=ns (vu wr (aA O w wr) g b' p' c HI.out.2.2.1 HI.out.2.1);clear hcc hend;dsimp only [ej.wh,ej.sta] at hc;go_wp2_with fail;refine HO.out.mono ?_;rintro e w2 ⟨rfl,hI2,hs2⟩;have H2:=ns (BT (hI2.imp (aA.up HI.out.2.2.2.size hs2.size) (aA.lt HL.out.1 (Nat.le_trans HI.out.2.2.2.size hs2.size))) (HI.out.2.2.2.up hs2));clear hI2 hs2 hc r1 hz;go_wp2_with fail;exact⟨⟨k+1,db b' p' c,by omega,by go_num,HN.out,EV HI.out.2.1,H2.out.1,H2.out.2⟩,by simp [intOf];omega⟩
   |whole b'=>
    have HF:=hend (by rw [HI.out.1,kW rfl];simp);clear hend;dsimp only [ej.wh,ej.sta] at hc;go_wp2_with fail;go_quiet (fail);go_wp2_with fail;exact bodyPost_ret (v:=.tuple #[.int .i64 k,.bool true,.int .i64 0]) (by simp [results,Tryz.results151,go_sem]) rfl (by rw [HF.out];exact⟨rfl,(HI.out.2.2.1.sm ((Sm.refl No wr).drewN _) (fun _ _ e=>e)).imp (fun _ e=>e) (aA.lt HL.out.1 HI.out.2.2.2.size),trivial,HI.out.2.2.2.drewN _⟩)
   |bad s=>
    have HF:=hend (by rw [HI.out.1,kW rfl];simp);clear hend;dsimp only [ej.wh,ej.sta] at hc;have e0:(s==0)=false:=by have:=HI.out.2.1;simpa [yq] using this
    go_wp2_with fail;go_quiet (fail);go_wp2_with fail;exact bodyPost_ret (v:=.tuple #[.int .i64 k,.bool false,.int .i64 s]) (by simp [results,Tryz.results151,go_sem]) rfl (by rw [HF.out];exact⟨rfl,(HI.out.2.2.1.sm ((Sm.refl No wr).drewN _) (fun _ _ e=>e)).imp (fun _ e=>e) (aA.lt HL.out.1 HI.out.2.2.2.size),HI.out.2.1,HI.out.2.2.2.drewN _⟩)
  ·have hkl:k=l.length:=by omega
   have HF:=hend (by rw [HI.out.1,List.drop_of_length_le (by omega)];cases q<;>simp [jI]);subst hkl;clear hend;go_wp2_with fail;go_quiet (fail);go_wp2_with fail;exact bodyPost_ret (v:=.tuple #[.int .i64 l.length,.bool q.wh,.int .i64 q.sta]) (by simp [results,Tryz.results151,go_sem]) rfl (by rw [HF.out];exact⟨rfl,(HI.out.2.2.1.sm ((Sm.refl No wr).drewN _) (fun _ _ e=>e)).imp (fun _ e=>e) (aA.lt HL.out.1 HI.out.2.2.2.size),HI.out.2.1,HI.out.2.2.2.drewN _⟩)
theorem zm(w:World):Calls Tryz.prog 223 #[] w fun e w'=>e=.returned (.pointer (some ⟨w.heap.size,0,none⟩))∧Sm No w w'∧FG w' (fun x=>x=w.heap.size) w.heap.size [] (.size []):=by
 go_in;go_wp2_with fail;go_ret;have hb:=Bk.new w 237 #[.int .i64 0,.slice none 0 0,.int .i64 0,.slice none 0 0,.slice none 0 0,.int .i64 0,.bool false,.int .i64 0];exact⟨rfl,(Sm.refl No w).alloc _,_,_,_,0,⟨hb,ay.nil _ _,ay.nil _ _,World.ownsRow_nil _ _ _ _,(fun x e=>by cases e),rfl,(fun x e=>by cases e),(fun x e=>by cases e),(fun x e=>by cases e),(fun x e=>by rw [e];exact hb.lt)⟩,trivial⟩
theorem vQ(w:World)(O:Nat→Prop)(g:Nat)(b:af)(hQ:qI w O g (.whole b))(hb:b.length≤1000000):
 Calls Tryz.prog 152 #[.pointer (some ⟨g,0,none⟩)] w fun e w'=>∃ v,e=.returned v∧lO w' w.heap.size 5 v b∧Sm No w w':=by
 obtain⟨vB,vT,vL,left,st,L,ends,ts,hI⟩:=hQ;obtain⟨A,cp,hv,hR, -,h0⟩:=hI.body.slice;subst hv;have hgl:=hI.bk.lt;have hcg:=hI.bk.all;have hzg:=hI.bk.fz;have HC:=ns (ka w A cp b hR (fun e=>by
  have:=h0 e;have h1:=hI.body.slice;subst e;rcases hI.body.2 with ⟨h2,h3⟩|⟨_,_,_,h2,_⟩
  ·injection h2 with _ h4 h5;exact⟨h3,h5⟩
  ·injection h2 with h2;cases h2) hb)
 clear hI hR h0;go_in;go_wp2_with fail;refine HC.out.mono ?_;rintro e w2 ⟨v,rfl,h2⟩;have H2:=ns h2;clear h2;go_wp2_with fail;go_ret;exact⟨v,rfl,H2.out⟩
def CZ(w:World)(e:Ending)(w':World):Prop:=∃ g f v,e=.returned (.pointer (some ⟨g,0,none⟩))∧bH w' w.heap.size g f v Hd.new∧w.heap.size≤g∧w.heap.size≤f∧Sm No w w'
theorem C9(w:World):Calls Tryz.prog 107 #[] w (CZ w):=by
 have HO:=ns (xL w [] none 0 (fun k hk=>absurd hk (Nat.not_lt_zero _)) (fun x hx=>by cases hx) (by decide));go_in;go_wp2_with fail;refine HO.out.mono ?_;rintro e w2 ⟨f,v,rfl,hf,hF, -,hs⟩;have HF:=ns (BT hf (BT hF hs));clear hf hF hs;go_wp2_with fail;go_ret;obtain⟨hf,hF,hs⟩:=HF.out;have hfl:=hF.1.lt;have hvl:=fun b e=>(World.ownsRow.lt hF.2.1 b e).2;have hb:=Bk.new w2 181 (ly f Hd.new);have hF2:aD (w2.alloc (.cells (ly f Hd.new) 181)) w.heap.size f 195 v []:=hF.no ((Sm.refl No w2).alloc _);exact⟨w2.heap.size,f,v,rfl,⟨hb,hF2,by omega,fun e=>absurd (hvl _ e) (Nat.lt_irrefl _)⟩,hs.size,hf,hs.alloc _⟩
def xO(t:Tg):Value:=.agg #[.int .i64 t.form,.string ⟨t.host.toArray⟩,.string ⟨t.path.toArray⟩,.string ⟨t.query.toArray⟩]
theorem nO(w:World)(B g f:Nat)(v:Value)(h:Hd)(hI:bH w B g f v h):
 Calls Tryz.prog 111 #[.pointer (some ⟨g,0,none⟩)] w fun e w'=>e=.returned (.tuple #[.string ⟨h.method.toArray⟩,xO h.target,.int .i64 h.minor])∧Sm No w w':=by
 have hgl:=hI.bk.lt;obtain⟨b0,hb0⟩:=Iu w.heap.size;obtain⟨w1,hw1⟩:∃ w1,w.alloc (.cells #[.int .i64 0,.string ⟨#[]⟩,.string ⟨#[]⟩,.string ⟨#[]⟩] 59)=w1:=⟨_,rfl⟩;have hs1:Sm No w w1:=by rw [←hw1];exact(Sm.refl No w).alloc _
 have hb1:Bk w1 b0 59 #[.int .i64 0,.string ⟨#[]⟩,.string ⟨#[]⟩,.string ⟨#[]⟩]:=by rw [←hw1,←hb0];exact Bk.new w _ _
 have hI1:=hI.no hs1;have hc:=hI1.bk.all;have hz:=hI1.bk.fz;have hgl1:=hI1.bk.lt;unfold ly at hc;have g1:=hc 1;have g2:=hc 2;have g3:=hc 3;have g4:=hc 4;have g5:=hc 5;have g6:=hc 6;have d0:=hb1.at 0 rfl;have d1:=hb1.at 1 rfl;have d2:=hb1.at 2 rfl;have d3:=hb1.at 3 rfl;have hz1:=hb1.fz;have hl1:=hb1.lt;have hne:b0≠g:=by omega
 have hne2:g≠b0:=by omega
 have H:=ns (BT hw1 (BT hs1 (BT hb1 hb0)));unfold xO;clear hI hw1 hs1 hb1 hI1 hc hb0;go_in;go_upto_region 3 with fail;rw [H.out.1,H.out.2.2.2]
 go_region
 all_goals
  go_wp2_with fail;have hbF:=((((H.out.2.2.1.set 0 (.int .i64 h.target.form)).set 1 (.string ⟨h.target.host.toArray⟩)).set 2 (.string ⟨h.target.path.toArray⟩)).set 3 (.string ⟨h.target.query.toArray⟩)).drew;have c0:=hbF.at 0 (v:=.int .i64 h.target.form) rfl;have c1:=hbF.at 1 (v:=.string ⟨h.target.host.toArray⟩) rfl;have c2:=hbF.at 2 (v:=.string ⟨h.target.path.toArray⟩) rfl;have c3:=hbF.at 3 (v:=.string ⟨h.target.query.toArray⟩) rfl;exact bodyPost_ret (v:=.tuple #[.string ⟨h.method.toArray⟩,.agg #[.int .i64 h.target.form,.string ⟨h.target.host.toArray⟩,.string ⟨h.target.path.toArray⟩,.string ⟨h.target.query.toArray⟩],.int .i64 h.minor]) (by simp [results,Tryz.results111,go_sem,c0,c1,c2,c3]) rfl ⟨rfl,((((H.out.2.1.setN (Nat.le_of_eq H.out.2.2.2) 0 _).setN (Nat.le_of_eq H.out.2.2.2) 1 _).setN (Nat.le_of_eq H.out.2.2.2) 2 _).setN (Nat.le_of_eq H.out.2.2.2) 3 _).drew⟩
theorem uu(w:World)(B g f:Nat)(v:Value)(h:Hd)(hI:bH w B g f v h):
 Calls Tryz.prog 109 #[.pointer (some ⟨g,0,none⟩)] w fun e w'=>e=.returned (mc h.how)∧Sm No w w':=by
 have hgl:=hI.bk.lt;have hc:=hI.bk.all;have hz:=hI.bk.fz;unfold ly at hc;unfold mc;clear hI;go_in;go_wp2_with fail;have hb:=Bk.new w 177 #[.int .i64 h.how.kind,.int .i64 h.how.len,.bool h.how.close,.bool h.how.expect];have c0:=hb.at 0 rfl;have c1:=hb.at 1 rfl;have c2:=hb.at 2 rfl;have c3:=hb.at 3 rfl;exact bodyPost_ret (v:=.agg #[.int .i64 h.how.kind,.int .i64 h.how.len,.bool h.how.close,.bool h.how.expect]) (by simp [results,Tryz.results109,go_sem,c0,c1,c2,c3]) rfl ⟨rfl,(Sm.refl No w).alloc _⟩
def df.fedB(p:df)(b:Nat):Int:=match p with
 | .size l=>69 * b+l.length
 | .data _=>69 * b+66
 | .tail k=>69 * b-2+k
 | .trail l e _=>69 * b+66+e+l.length
def iH(b:af)(p:df):Bool:=b.isEmpty&&p.fresh
structure oj (b:af) (p:df) (fed:Int):Prop where
 lo:0≤fed
 hi:fed≤p.fedB b.length
 zero:fed=0↔iH b p=true
theorem oj.bd{b:af}{p:df}{fed:Int}(h:oj b p fed)(ho:jK b p):fed≤200000:=by
 have h1:=h.hi;have h2:=ho.body;have h3:=ho.pl;unfold df.fedB at h1
 cases p with
 |size l=>have:l.length≤65:=h3;dsimp only at h1;omega
 |data n=>dsimp only at h1;omega
 |tail k=>have:k≤1:=h3.1;dsimp only at h1;omega
 |trail l e ts=>have:l.length≤257∧e≤512:=⟨h3.1,h3.2.1⟩;dsimp only at h1;omega
theorem AG:oj [] (.size []) 0:=⟨by decide,by decide,by decide⟩
theorem E2{b b':af}{p p':df}{c:UInt8}(ho:jK b p)(h:db b p c=.at b' p'):p.fedB b.length+1≤p'.fedB b'.length∧iH b' p'=false:=by
 have ha:=ho.pl
 cases p with
 |data n=>
  rw [dG] at h;injection h with h3 h4;subst h3 h4;refine⟨?_,by unfold iH;simp⟩;by_cases h1:n=1
  ·rw [if_pos h1];unfold df.fedB;dsimp only;rw [List.length_append,List.length_singleton];omega
  ·rw [if_neg h1];unfold df.fedB;dsimp only;rw [List.length_append,List.length_singleton];omega
 |tail k=>
  have e:db b (.tail k) c=if c=(if k=0 then 13 else 10) then .at b (if k=0 then .tail 1 else .size []) else .bad 400:=rfl;have hb:b.isEmpty=false:=by
   have:=ha.2
   cases b with
   |nil=>exact absurd rfl this
   |cons=>rfl
  rw [e] at h;by_cases hc:c=(if k=0 then 13 else 10)
  ·rw [if_pos hc] at h;injection h with h3 h4;subst h3 h4;refine⟨?_,by unfold iH;rw [hb];rfl⟩;have:=ha.1;by_cases hk:k=0
   ·rw [if_pos hk];unfold df.fedB;dsimp only;omega
   ·rw [if_neg hk];unfold df.fedB;dsimp only [List.length_nil];omega
  ·rw [if_neg hc] at h
   cases h
 |size l=>
  have hl:l.length≤65:=ha;rw [cj] at h;split at h
  ·split at h
   ·cases h
   ·unfold cP at h;split at h
    ·cases h
    ·split at h
     ·cases h
     ·split at h
      ·cases h
      ·split at h
       ·injection h with h1 h2;subst h1 h2;exact⟨by unfold df.fedB;dsimp only [List.length_nil];omega,by unfold iH;simp [df.fresh]⟩
       ·injection h with h1 h2;subst h1 h2;exact⟨by unfold df.fedB;dsimp only;omega,by unfold iH;simp [df.fresh]⟩
  ·split at h
   ·cases h
   ·injection h with h3 h4;subst h3 h4;refine⟨by unfold df.fedB;dsimp only;rw [List.length_append,List.length_singleton];omega,?_⟩;have:(df.size (l++[c])).fresh=false:=by
     cases l<;>rfl
    unfold iH;rw [this];simp
 |trail l e ts=>
  rw [bB] at h;split at h
  ·split at h
   ·cases h
   ·rename_i s hs
    have hls:l.length=s.length+1:=by rw [rX hs];simp
    unfold bN at h;split at h
    ·cases h
    ·split at h
     ·cases h
     ·split at h
      ·cases h
      ·injection h with h1 h2;subst h1 h2;exact⟨by unfold df.fedB;dsimp only [List.length_nil];omega,by unfold iH;simp [df.fresh]⟩
  ·split at h
   ·cases h
   ·injection h with h3 h4;subst h3 h4;exact⟨by unfold df.fedB;dsimp only;rw [List.length_append,List.length_singleton];omega,by unfold iH;simp [df.fresh]⟩
theorem xN:∀ (l:af) {b b':af} {p p':df} {fed:Int} {n:Nat},jK b p→oj b p fed→jI (.at b p) l=(.at b' p',n)→oj b' p' (fed+n)
 |[],b,b',p,p',fed,n,_,hf,h=>by
  injection h with h1 h2;injection h1 with h1 h3;subst h1 h3 h2;simpa using hf
 |c::r,b,b',p,p',fed,n,ho,hf,h=>by
  have h:((jI (db b p c) r).1,(jI (db b p c) r).2+1)=(ej.at b' p',n):=h;injection h with h1 h2
  cases hr:db b p c with
  |«at» b1 p1=>
   rw [hr] at h1 h2;obtain⟨k1,k2⟩:=E2 ho hr;have hf1:oj b1 p1 (fed+1):=by
    have:=hf.lo;have:=hf.hi;refine⟨by omega,by omega,⟨fun e=>by omega,fun e=>by rw [k2] at e;cases e⟩⟩
   have:=xN r (vD ho hr) hf1 (Prod.ext h1 rfl);rw [←h2];have e:fed+((((jI (.at b1 p1) r).2+1:Nat)):Int)=fed+1+(((jI (.at b1 p1) r).2:Nat):Int):=by omega
   rw [e];exact this
  |whole b1=>rw [hr,kW rfl] at h1;cases h1
  |bad s=>rw [hr,kW rfl] at h1;cases h1
structure D5 (h:Hd):Prop where
 new:h.started=false→h.minor=0∧h.method=[]
 old:h.started=true→h.method≠[]
theorem FL:D5 Hd.new:=⟨fun _=>⟨rfl,rfl⟩,fun e=>by cases e⟩
theorem CE{h:Hd}{l:List af}(hm:D5 h):D5 (bz h l).1:=by
 unfold bz;split
 ·rename_i m s v
  split
  ·exact hm
  ·rename_i ht
   split
   ·exact hm
   ·split
    ·refine⟨fun e=>(by cases e),fun _ e=>ht ?_⟩;have e:m=[]:=e;rw [e];rfl
    ·exact hm
 ·exact hm
theorem Fb{h:Hd}{s:af}(hm:D5 h):D5 (aW h s).1:=by
 unfold aW;split
 ·exact hm
 ·split
  ·exact⟨hm.new,hm.old⟩
  ·split
   ·split
    ·exact⟨hm.new,hm.old⟩
    ·exact CE ⟨hm.new,hm.old⟩
   ·split
    ·exact⟨hm.new,hm.old⟩
    ·unfold gH;split
     ·exact⟨hm.new,hm.old⟩
     ·exact⟨hm.new,hm.old⟩
theorem Fj{h:Hd}{s:af}(hm:D5 h):D5 (bf h s):=by
 unfold bf;split
 ·have:=Fb (s:=s) hm;exact⟨this.new,this.old⟩
 ·exact hm
def ge(w:World)(g:Nat)(ph sta:Int)(ln hd:Value)(left:Int)(vB ch:Value)(fed:Int):Prop:=Bk w g 175 #[.int .i64 ph,.int .i64 sta,ln,hd,.int .i64 left,vB,ch,.int .i64 fed]
structure da (w:World) (O:Nat→Prop) (gh gf:Nat) (vF:Value) (h:Hd):Prop where
 ph:bH w 0 gh gf vF h
 og:O gh
 ogf:O gf
 of:∀ x,vF.ownBlock=some x→O x
def bS:Value:=.slice none 0 0
def km(w:World)(O:Nat→Prop)(vL:Value)(L:af):Prop:=ay w 0 vL L∧∀ y,vL.ownBlock=some y→O y
def F5(w:World)(O:Nat→Prop)(g:Nat):cu→Prop
 | .idle=>∃ gh gf vF vL,ge w g 0 0 vL (bg gh) 0 bS (.pointer none) 0∧da w O gh gf vF Hd.new∧km w O vL []
 | .head h L=>∃ gh gf vF vL,ge w g 1 0 vL (bg gh) 0 bS (.pointer none) 0∧da w O gh gf vF h∧km w O vL L∧D5 h
 | .len h B=>∃ gh gf vF ln vB,ge w g 2 0 ln (bg gh) (h.how.len-B.length) vB (.pointer none) B.length∧da w O gh gf vF h∧km w O vB B
 | .chunk h B p=>∃ gh gf vF ln gr Or fed,ge w g 2 0 ln (bg gh) 0 bS (bg gr) fed∧da w O gh gf vF h∧FG w Or gr B p∧(∀ y,Or y→O y)∧¬Or g∧¬Or gh∧¬Or gf∧(∀ y,vF.ownBlock=some y→¬Or y)∧oj B p fed
 | .whole h B=>∃ gh gf vF ln left vB ch fed,ge w g 3 0 ln (bg gh) left vB ch fed∧da w O gh gf vF h∧lO w 0 5 vB B∧∀ y,vB.ownBlock=some y→O y
 | .bad s=>∃ ln hd left vB ch fed,ge w g 4 s ln hd left vB ch fed
structure cx (w:World) (O:Nat→Prop) (g:Nat) (s:cu):Prop where
 q:F5 w O g s
 og:O g
 lt:∀ x,O x→x < w.heap.size
def eI(w:World)(O:Nat→Prop)(g:Nat)(s:cu)(e:Ending)(w':World):Prop:=e=.returned (.tuple #[])∧cx w' (aA O w w') g s∧Sm O w w'
section
variable {w w':World} {O S P:Nat→Prop} {g gh gf:Nat} {vF vL:Value} {h:Hd} {L:af} {s:cu}
theorem bH.sm(k:bH w 0 gh gf vF h)(hs:Sm S w w')(h1:¬S gh)(h2:¬S gf)(h3:∀ x,vF.ownBlock=some x→¬S x):bH w' 0 gh gf vF h:=
 ⟨k.bk.sm hs h1,k.fs.sm hs h2 h3,k.ne,k.own⟩
theorem da.sm(k:da w O gh gf vF h)(hs:Sm S w w')(h1:¬S gh)(h2:¬S gf)(h3:∀ x,vF.ownBlock=some x→¬S x):da w' O gh gf vF h:=⟨k.ph.sm hs h1 h2 h3,k.og,k.ogf,k.of⟩
theorem da.no(k:da w O gh gf vF h)(hs:Sm No w w'):da w' O gh gf vF h:=k.sm hs (fun e=>e) (fun e=>e) (fun _ _ e=>e)
theorem da.out(k:da w O gh gf vF h)(hs:Sm S w w')(hS:∀ x,O x→¬S x):da w' O gh gf vF h:=k.sm hs (hS _ k.og) (hS _ k.ogf) (fun x e=>hS x (k.of x e))
theorem da.imp(k:da w O gh gf vF h)(hi:∀ x,O x→P x):da w P gh gf vF h:=⟨k.ph,hi _ k.og,hi _ k.ogf,fun x e=>hi x (k.of x e)⟩
theorem km.imp(k:km w O vL L)(hi:∀ x,O x→P x):km w P vL L:=⟨k.1,fun y e=>hi y (k.2 y e)⟩
theorem km.out(k:km w O vL L)(hs:Sm S w w')(hS:∀ x,O x→¬S x):km w' O vL L:=⟨aa k.1 hs (fun x e=>hS x (k.2 x e)),k.2⟩
theorem da.own{t:TypeId}{cs:Array Value}(k:da w O gh gf vF h)(hb:Bk w g t cs)(ht:t=175)(hs:Sm (fun x=>x=g) w w'):da w' O gh gf vF h:=by
 subst ht;refine k.sm hs (fun e=>mx k.ph.bk hb (by decide) e) (fun e=>mx k.ph.fs.1 hb (by decide) e) (fun x e e2=> ?_);subst e2;exact ah k.ph.fs.2.1 hb (by decide) e
theorem km.own{t:TypeId}{cs:Array Value}(k:km w O vL L)(hb:Bk w g t cs)(ht:t=175)(hs:Sm (fun x=>x=g) w w'):km w' O vL L:=by
 subst ht;exact⟨aa k.1 hs (fun x e e2=>by subst e2;exact ah k.1 hb (by decide) e),k.2⟩
theorem F5.imp(h:F5 w O g s)(hi:∀ x,O x→P x):F5 w P g s:=by
 cases s with
 |idle=>obtain⟨a1,a2,a3,a4,h1,h2,h3⟩:=h;exact⟨a1,a2,a3,a4,h1,h2.imp hi,h3.imp hi⟩
 |head h' L=>obtain⟨a1,a2,a3,a4,h1,h2,h3,h4⟩:=h;exact⟨a1,a2,a3,a4,h1,h2.imp hi,h3.imp hi,h4⟩
 |len h' B=>obtain⟨a1,a2,a3,a4,a5,h1,h2,h3⟩:=h;exact⟨a1,a2,a3,a4,a5,h1,h2.imp hi,h3.imp hi⟩
 |chunk h' B p=>obtain⟨a1,a2,a3,a4,a5,a6,a7,h1,h2,h3,h4,h5⟩:=h;exact⟨a1,a2,a3,a4,a5,a6,a7,h1,h2.imp hi,h3,fun y e=>hi y (h4 y e),h5⟩
 |whole h' B=>obtain⟨a1,a2,a3,a4,a5,a6,a7,a8,h1,h2,h3,h4⟩:=h;exact⟨a1,a2,a3,a4,a5,a6,a7,a8,h1,h2.imp hi,h3,fun y e=>hi y (h4 y e)⟩
 |bad s=>exact h
theorem F5.out(h:F5 w O g s)(og:O g)(hs:Sm S w w')(hS:∀ x,O x→¬S x):F5 w' O g s:=by
 have hg:=hS g og
 cases s with
 |idle=>obtain⟨a1,a2,a3,a4,h1,h2,h3⟩:=h;exact⟨a1,a2,a3,a4,Bk.sm h1 hs hg,h2.out hs hS,h3.out hs hS⟩
 |head h' L=>obtain⟨a1,a2,a3,a4,h1,h2,h3,h4⟩:=h;exact⟨a1,a2,a3,a4,Bk.sm h1 hs hg,h2.out hs hS,h3.out hs hS,h4⟩
 |len h' B=>obtain⟨a1,a2,a3,a4,a5,h1,h2,h3⟩:=h;exact⟨a1,a2,a3,a4,a5,Bk.sm h1 hs hg,h2.out hs hS,h3.out hs hS⟩
 |chunk h' B p=>
  obtain⟨a1,a2,a3,a4,a5,a6,a7,h1,h2,h3,h4,h5⟩:=h;have h3':qI w a6 a5 (.at B p):=h3;exact⟨a1,a2,a3,a4,a5,a6,a7,Bk.sm h1 hs hg,h2.out hs hS,h3'.sm hs (fun x e=>hS x (h4 x e)),h4,h5⟩
 |whole h' B=>obtain⟨a1,a2,a3,a4,a5,a6,a7,a8,h1,h2,h3,h4⟩:=h;exact⟨a1,a2,a3,a4,a5,a6,a7,a8,Bk.sm h1 hs hg,h2.out hs hS,aV.sm h3 hs (fun b e=>hS b (h4 b e)),h4⟩
 |bad s=>obtain⟨a1,a2,a3,a4,a5,a6,h1⟩:=h;exact⟨a1,a2,a3,a4,a5,a6,Bk.sm h1 hs hg⟩
theorem cx.out(h:cx w O g s)(hs:Sm S w w')(hS:∀ x,O x→¬S x):cx w' O g s:=⟨h.q.out h.og hs hS,h.og,fun x e=>Nat.lt_of_lt_of_le (h.lt x e) hs.size⟩
theorem cx.no(h:cx w O g s)(hs:Sm No w w'):cx w' O g s:=h.out hs (fun _ _ e=>e)
theorem cx.imp(h:cx w O g s)(hi:∀ x,O x→P x)(lt:∀ x,P x→x < w.heap.size):cx w P g s:=⟨h.q.imp hi,hi _ h.og,lt⟩
theorem cx.cells(h:cx w O g s):∃ ln hd left vB ch fed,ge w g s.phase s.status ln hd left vB ch fed:=by
 have h:=h.q
 cases s with
 |idle=>obtain⟨a1,a2,a3,a4,h1,_⟩:=h;exact⟨_,_,_,_,_,_,h1⟩
 |head h' L=>obtain⟨a1,a2,a3,a4,h1,_⟩:=h;exact⟨_,_,_,_,_,_,h1⟩
 |len h' B=>obtain⟨a1,a2,a3,a4,a5,h1,_⟩:=h;exact⟨_,_,_,_,_,_,h1⟩
 |chunk h' B p=>obtain⟨a1,a2,a3,a4,a5,a6,a7,h1,_⟩:=h;exact⟨_,_,_,_,_,_,h1⟩
 |whole h' B=>obtain⟨a1,a2,a3,a4,a5,a6,a7,a8,h1,_⟩:=h;exact⟨_,_,_,_,_,_,h1⟩
 |bad s=>obtain⟨a1,a2,a3,a4,a5,a6,h1⟩:=h;exact⟨_,_,_,_,_,_,h1⟩
end
theorem eI.up{w w1 w2:World}{O:Nat→Prop}{g:Nat}{s:cu}{e:Ending}(h:eI w1 (aA O w w1) g s e w2)(lt:∀ x,O x→x < w.heap.size)(og:O g)(hs:Sm O w w1):eI w O g s e w2:=
 ⟨h.1,⟨h.2.1.q.imp (aA.up hs.size h.2.2.size),Or.inl og,aA.lt lt (Nat.le_trans hs.size h.2.2.size)⟩,hs.up h.2.2⟩
theorem cx.badOf{w w1:World}{O:Nat→Prop}{g:Nat}{s:Int}{ln hd vB ch:Value}{left fed:Int}(og:O g)(lt:∀ x,O x→x < w.heap.size)(hs:Sm O w w1)(hb:ge w1 g 4 s ln hd left vB ch fed):eI w O g (.bad s) (.returned (.tuple #[])) w1:=
 ⟨rfl,⟨⟨_,_,_,_,_,_,hb⟩,Or.inl og,aA.lt lt hs.size⟩,hs⟩
theorem du(w:World)(g:Nat)(s:Int)(hs:s≠0){ph sta left fed:Int}{ln hd vB ch:Value}(hb:ge w g ph sta ln hd left vB ch fed):
 Calls Tryz.prog 153 #[.pointer (some ⟨g,0,none⟩),.int .i64 s] w fun e w'=>e=.returned (.tuple #[])∧ge w' g 4 s ln hd left vB ch fed∧Sm (fun x=>x=g) w w':=by
 have hgl:=Bk.lt hb;have hc:=Bk.all hb;have hz:=Bk.fz hb;have HB:=ns hb;have e0:(s==0)=false:=by simp [hs]
 have e1:(s != 0)=true:=by simp [hs]
 clear hb hs;go_in;go_wp2_with fail
 go_end0
 exact⟨rfl,((Bk.set HB.out 0 (.int .i64 4)).set 1 (.int .i64 s)).eq rfl,((Sm.refl _ w).set1 0 _).set1 1 _⟩
theorem ki(w:World)(g:Nat):Calls Tryz.prog 153 #[.pointer (some ⟨g,0,none⟩),.int .i64 0] w fun e w'=>e=.returned (.tuple #[])∧w=w':=by
 go_in;go_wp2_with fail
 go_end0
 exact⟨rfl,rfl⟩
theorem kZ(w:World)(g gh gf:Nat)(vF:Value)(h:Hd)(hm:D5 h){ph sta left fed:Int}{ln vB ch:Value}(hb:ge w g ph sta ln (bg gh) left vB ch fed)(hI:bH w 0 gh gf vF h):
 Calls Tryz.prog 180 #[.pointer (some ⟨g,0,none⟩)] w fun e w'=>e=.returned (.int .i64 h.long)∧Sm No w w':=by
 have hgl:=Bk.lt hb;have hc:=Bk.at hb 3 (v:=.pointer (some ⟨gh,0,none⟩)) rfl;have HS:=ns (nO w 0 gh gf vF h hI);have HM:=ns hm;clear hb hI hm;obtain⟨m,hmm⟩:=Iu ((⟨h.method.toArray⟩:ByteArray));have hmt:m.toList=h.method:=by rw [ByteArray.toList_eq,←hmm]
 rw [hmm] at HS;unfold xO at HS
 cases hst:h.started with
 |false=>
  have e0:m.toList=[]:=by rw [hmt];exact(HM.out.new hst).2
  rw [show h.long=414 from by unfold Hd.long;rw [if_neg (by rw [hst];decide)]];clear hmm hmt hst;go_in;go_wp2_with fail;refine HS.out.mono ?_;rintro e w2 ⟨rfl,h2⟩;have H2:=ns (h2.alloc (.cells #[.int .i64 h.target.form,.string ⟨h.target.host.toArray⟩,.string ⟨h.target.path.toArray⟩,.string ⟨h.target.query.toArray⟩] 59));clear h2;go_wp2_with fail;go_ret;exact⟨rfl,H2.out⟩
 |true=>
  have e0:¬m.toList=[]:=by rw [hmt];exact HM.out.old hst
  have e1:m.toList.isEmpty=false:=by
   cases hh:m.toList with
   |nil=>exact absurd hh e0
   |cons=>rfl
  rw [show h.long=431 from by unfold Hd.long;rw [if_pos hst]];clear hmm hmt hst;go_in;go_wp2_with fail;refine HS.out.mono ?_;rintro e w2 ⟨rfl,h2⟩;have H2:=ns (h2.alloc (.cells #[.int .i64 h.target.form,.string ⟨h.target.host.toArray⟩,.string ⟨h.target.path.toArray⟩,.string ⟨h.target.query.toArray⟩] 59));clear h2;go_wp2_with fail;go_ret;exact⟨rfl,H2.out⟩
def Hn(w:World)(e:Ending)(w':World):Prop:=∃ g,e=.returned (.pointer (some ⟨g,0,none⟩))∧cx w' (fun x=>w.heap.size≤x∧x < w'.heap.size) g .idle∧Sm No w w'
theorem qA(w:World):Calls Tryz.prog 56 #[] w (Hn w):=by
 have HN:=ns (C9 w);go_in;go_wp2_with fail;refine HN.out.mono ?_;rintro e w2 ⟨gh,gf,v,rfl,hI,h1,h2,hs⟩;have H2:=ns (BT hI (BT h1 (BT h2 hs)));clear hI h1 h2 hs;go_wp2_with fail;go_ret;obtain⟨hI,h1,h2,hs⟩:=H2.out;have hb:=Bk.new w2 175 #[.int .i64 0,.int .i64 0,.slice none 0 0,.pointer (some ⟨gh,0,none⟩),.int .i64 0,.slice none 0 0,.pointer none,.int .i64 0];have hs2:=hs.size;have l1:=hI.bk.lt;have l2:=hI.fs.1.lt;have hsz:(w2.alloc (.cells #[.int .i64 0,.int .i64 0,.slice none 0 0,.pointer (some ⟨gh,0,none⟩),.int .i64 0,.slice none 0 0,.pointer none,.int .i64 0] 175)).heap.size=w2.heap.size+1:=by simp
 have hI0:bH w2 0 gh gf v Hd.new:=⟨hI.bk,⟨hI.fs.1,bc hI.fs.2.1 (fun _ _=>Nat.zero_le _),hI.fs.2.2⟩,hI.ne,hI.own⟩;refine⟨w2.heap.size,rfl,⟨⟨gh,gf,v,.slice none 0 0,hb,⟨hI0.no ((Sm.refl No w2).alloc _),⟨h1,by omega⟩,⟨h2,by omega⟩,fun x e=> ?_⟩,ay.nil _ _,fun y e=>by cases e⟩,⟨hs2,by omega⟩,fun x e=>e.2⟩,hs.alloc _⟩;have:=World.ownsRow.lt hI.fs.2.1 x e;exact⟨this.1,by omega⟩
end Go.Proofs.YtcflkcbogofgbaaGreatDoor
