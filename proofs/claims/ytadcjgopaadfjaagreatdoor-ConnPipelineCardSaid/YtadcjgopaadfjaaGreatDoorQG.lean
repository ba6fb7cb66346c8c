import Derived.Test.YtadcjgopaadfjaaGreatDoorQSiteD
import Derived.Test.YtadcjgopaadfjaaGreatDoorQU
import Derived.Test.YtadcjgopaadfjaaGreatDoorQT
import Derived.Lib.RowBridge
import Derived.Test.YtadcjgopaadfjaaGreatDoorQN
set_option maxHeartbeats 8000000
set_option maxRecDepth 100000
namespace Go.Proofs.YtadcjgopaadfjaaGreatDoor
open Go.RowKit Go.Proofs
theorem dk.ltO{tt:TypeId}{tl:List Value}{w:World}{O:Nat→Prop}{r:Nat}{L:List Lt}(h:dk tt tl w O r L):∀ b,O b→b < w.heap.size:=by
 obtain⟨_,_,_,_,_,_,_,_,_,h,_⟩:=h;exact h
theorem dk.own{tt:TypeId}{tl:List Value}{w:World}{O:Nat→Prop}{r:Nat}{L:List Lt}(h:dk tt tl w O r L):O r:=by
 obtain⟨_,_,_,_,_,_,h,_⟩:=h;exact h
def gd(w w1:World)(K:Nat→Prop)(tt:TypeId)(tl:List Value)(r:Nat)(L:List Lt):Prop:=∃ O,dk tt tl w1 O r L∧Sm No w w1∧(∀ b,O b→w.heap.size≤b)∧∀ b,K b→b < w1.heap.size∧¬O b
section
variable {w w1 w2:World} {K:Nat→Prop} {tt:TypeId} {tl:List Value} {r:Nat} {L:List Lt}
theorem gd.no(h:gd w w1 K tt tl r L)(hs:Sm No w1 w2):gd w w2 K tt tl r L:=by
 obtain⟨O,h1,h2,h3,h4⟩:=h;exact⟨O,h1.no hs,h2.tt hs,h3,fun b hb=>⟨Nat.lt_of_lt_of_le (h4 b hb).1 hs.size,(h4 b hb).2⟩⟩
theorem gd.more(h:gd w w1 K tt tl r L)(hs:Sm No w1 w2){K2:Nat→Prop}(hK:∀ b,K2 b→(K b∨w1.heap.size≤b)∧b < w2.heap.size):gd w w2 K2 tt tl r L:=by
 obtain⟨O,h1,h2,h3,h4⟩:=h;refine⟨O,h1.no hs,h2.tt hs,h3,fun b hb=>⟨(hK b hb).2,fun e=> ?_⟩⟩;rcases (hK b hb).1 with hb|hb
 ·exact(h4 b hb).2 e
 ·have:=h1.ltO b e;omega
theorem gd.sm(h:gd w w1 K tt tl r L):Sm No w w1:=by
 obtain⟨_,_,h,_⟩:=h;exact h
theorem gd.cell(h:gd w w1 K tt tl r L):r < w1.heap.size∧∃ A c,w1.cell? ⟨r,0,none⟩=some (.slice A L.length c)∧∀ k (x:Lt),L[k]?=some x→∃ g,A=some ⟨g,0,none⟩∧g < w1.heap.size∧w1.cell? ⟨g,k * 3,none⟩=some (fp x.pat):=by
 obtain⟨O,⟨v,l,hT⟩,_⟩:=h;obtain⟨A,c,rfl⟩:=hT.form;refine⟨hT.1.lt,A,c,hT.1.at 0 (by simp),fun k x hx=> ?_⟩;obtain⟨hk,e⟩:=List.getElem?_eq_some_iff.1 hx;obtain⟨g,A2,c2,hAe,r0,_⟩:=hT.get hk;rw [e] at r0;exact⟨g,hAe,World.block_lt_of_cell? _ _ r0,r0⟩
theorem gd.old(h:gd w w1 K tt tl r L){K2:Nat→Prop}(hK:∀ b,K2 b→K b∨b < w.heap.size):gd w w1 K2 tt tl r L:=by
 obtain⟨O,h1,h2,h3,h4⟩:=h;refine⟨O,h1,h2,h3,fun b hb=> ?_⟩;rcases hK b hb with hb|hb
 ·exact h4 b hb
 ·exact⟨Nat.lt_of_lt_of_le hb h2.size,fun e=>by have:=h3 b e;omega⟩
theorem Sm.cellS{S:Nat→Prop}{w w1:World}(h:Sm S w w1){b o:Nat}(hb:b < w.heap.size)(hS:¬S b){v:Value}(hc:w.cell? ⟨b,o,none⟩=some v):w1.cell? ⟨b,o,none⟩=some v:=
 (World.cell?_of_block (w:=w) (a:=⟨b,o,none⟩) (h.block b hb hS)).trans hc
theorem ks{s:ByteArray}{id:Int}{A:Option Addr}{c:Nat}{ms:List ah}(h:gd w w1 K tt tl r L)(hL:oa L)(hs:s.size≤800000)(hA:ax w1 A (ms.map aP))(hn:A=none→c=0)(hml:ms.length≤4000)(hms:∀ t∈ms,t.length≤1000000):
 Calls Tryz.prog 63 #[.pointer (some ⟨r,0,none⟩),.string s,.int .i64 id,.slice A ms.length c] w1 fun e w2=>e=.returned (.int .i64 (bW L ⟨af s,id,ms⟩))∧gd w w2 K tt tl r (fX L ⟨af s,id,ms⟩)∧Sm (fun b=>¬K b) w1 w2:=by
 obtain⟨O,h1,h2,h3,h4⟩:=h;refine(Da w1 O r L s id A c ms h1 hL.1 (fun x hx=>hL.2 x hx) (by omega) hA hn (by omega) hms).mono ?_;rintro e w2 ⟨he,O',g1,g2,g3⟩;refine⟨he,⟨O',g1,h2.fresh g2 h3,fun b hb=> ?_,fun b hb=>⟨Nat.lt_of_lt_of_le (h4 b hb).1 g2.size,fun e=> ?_⟩⟩,g2.mono (fun b _ e hk=>(h4 b hk).2 e)⟩
 ·rcases g3 b hb with g|g
  ·exact h3 b g
  ·exact Nat.le_trans h2.size g
 ·rcases g3 b e with g|g
  ·exact(h4 b hb).2 g
  ·have:=(h4 b hb).1;omega
end
def gU(w:World)(O:Nat→Prop)(x:Nat)(T:List br):Prop:=
 ∃ (Q:Nat→Prop) (vT:Value),dk 117 [vT] w Q x (ao T)∧uU w 0 vT T∧(∀ b,(Q b∨vT.ownBlock=some b)→O b)∧∀ b,O b→b < w.heap.size
theorem gU.sm{S O:Nat→Prop}{w w':World}{s:Nat}{T:List br}(h:gU w O s T)(hs:Sm S w w')(hS:∀ b,O b→¬S b):gU w' O s T:=by
 obtain⟨Q,vT,h1,h3,h4,h5⟩:=h;exact⟨Q,vT,h1.sm hs (fun b hb=>hS b (h4 b (Or.inl hb))),ae h3 hs (fun b hb=>hS b (h4 b (Or.inr hb))),h4,fun b hb=>Nat.lt_of_lt_of_le (h5 b hb) hs.size⟩
theorem gU.no{O:Nat→Prop}{w w':World}{s:Nat}{T:List br}(h:gU w O s T)(hs:Sm No w w'):gU w' O s T:=h.sm hs (fun _ _ h=>h)
def mV(w:World)(T:List br)(e:Ending)(w':World):Prop:=
 (cD T=0∧∃ s O,e=.returned (.tuple #[.pointer (some ⟨s,0,none⟩),.int .i64 0])∧gU w' O s T∧Sm No w w'∧∀ b,O b→w.heap.size≤b)∨
 (cD T≠0∧e=.returned (.tuple #[.pointer none,.int .i64 (cD T)])∧Sm No w w')
theorem dv{T:List br}{w w':World}(h:bO T=false)(hs:Sm No w w'):mV w T (.returned (.tuple #[.pointer none,.int .i64 1])) w':=by
 have e:cD T=1:=by unfold cD;rw [if_neg (by rw [h];decide)]
 exact Or.inr ⟨by rw [e];decide,by rw [e],hs⟩
theorem tJ{T:List br}{w w':World}(h:bO T=true)(h2:dC T=false)(hs:Sm No w w'):mV w T (.returned (.tuple #[.pointer none,.int .i64 11])) w':=by
 have e:cD T=11:=by unfold cD;rw [if_pos h,if_neg (by rw [h2];decide)]
 exact Or.inr ⟨by rw [e];decide,by rw [e],hs⟩
theorem dE{s:ByteArray}{b:Bool}(h:Hid (cR (af s)=b))(hs:s.size≤800000)(w:World):Calls Tryz.prog 60 #[.string s] w fun e w'=>e=.returned (.bool b)∧Sm No w w':=by
 rw [←h.out];exact lg s (by omega) w
theorem zj{x:br}(a:cR (af x.path)=true)(b:x.type.size≠0)(c:x.type.size≤100)(d:di (af x.type)=true)(e:ay (af x.type)=af x.type)(f:x.data.size≤2048):fZ x=true:=by
 have b2:(af x.type).isEmpty=false:=by
  cases h:af x.type with
  |nil=>exact absurd (by rw [←ag,h];rfl) b
  |cons=>rfl
 unfold fZ;simp [a,b2,d,e,ag,c,f]
theorem jC{x:br}(h:fZ x=true):cR (af x.path)=true∧x.type.size≠0∧x.type.size≤100∧di (af x.type)=true∧ay (af x.type)=af x.type∧x.data.size≤2048:=by
 unfold fZ at h;simp only [Bool.and_eq_true,decide_eq_true_eq,beq_iff_eq,ag] at h;obtain⟨a,b,c,d,e,f⟩:=h;refine⟨a,fun h0=> ?_,c,d,e,f⟩;have:af x.type=[]:=List.eq_nil_of_length_eq_zero (by rw [ag];exact h0);rw [this] at b
 cases b
theorem gc{x:br}(h:¬(cR (af x.path)=true∧x.type.size≠0∧x.type.size≤100∧di (af x.type)=true∧ay (af x.type)=af x.type∧x.data.size≤2048)):fZ x=false:=by
 cases hb:fZ x with
 |false=>rfl
 |true=>exact absurd (jC hb) h
theorem yL{l:List Lt}{p:Lt→Prop}{k:Nat}{x:Lt}(h:∀ y∈l.take k,p y)(hk:l[k]?=some x)(hp:p x):∀ y∈l.take (k+1),p y:=gD h hk hp
def GK(w:World)(T:List br)(s:Nat)(AT:Option Addr)(cT:Nat)(i:Value)(wr:World):Prop:=
 ∃ k:Nat,k≤T.length∧i=.int .i64 k∧gd w wr (fun b=>(Value.slice AT T.length cT).ownBlock=some b) 117 [.slice AT T.length cT] s (ao (T.take k))∧uU wr 0 (.slice AT T.length cT) T∧EU T k
def GY(w:World)(L:List Lt)(p:ah)(i:Value)(wr:World):Prop:=∃ k:Nat,k≤L.length∧i=.int .i64 k∧(∀ y∈L.take k,y.pat≠p)∧Sm No w wr
theorem Am{w w1:World}{K:Nat→Prop}{r k b:Nat}{tt:TypeId}{tl:List Value}{T:List br}{x:br}{cd:Int}{L':List Lt}(hc:Hid (bW (ao T) (bU k x)=cd))(hS:Hid (fX (ao T) (bU k x)=L'))(h:gd w w1 K tt tl r (ao T))(hT:T.length≤40)(hs:x.path.size≤800000)(hb:Bk w1 b 9 #[.string ⟨#[71,69,84]⟩]):
 Calls Tryz.prog 63 #[.pointer (some ⟨r,0,none⟩),.string x.path,.int .i64 (10+(k:Int)),.slice (some ⟨b,0,none⟩) 1 1] w1 fun e w2=>e=.returned (.int .i64 cd)∧gd w w2 K tt tl r L'∧Sm (fun b=>¬K b) w1 w2:=by
 have e:(⟨af x.path,10+(k:Int),[[71,69,84]]⟩:Lt)=bU k x:=by
  unfold bU;congr 1
 have:=ks (w:=w) (A:=some ⟨b,0,none⟩) (c:=1) (s:=x.path) (id:=10+(k:Int)) (ms:=[[71,69,84]]) h (iD hT) hs (dt hb) (fun e=>by cases e) (by decide) (by decide);rw [e,hc.out,hS.out] at this;exact this
theorem zD(w:World)(A:Option Addr)(c:Nat)(T:List br)(hA:ax w A (bB T))(h0:A=none→T.length=0∧c=0)(hl:T.length≤1000000)(hsm:nM T):
 Calls Tryz.prog 34 #[.slice A T.length c] w (mV w T):=by
 have HA:=aa (ab hA (ab h0 hsm));clear hA h0 hsm;by_cases h40:40 < T.length
 ·have HE:=aa (dv (w:=w) (w':=w) (T:=T) (by
   cases ht:bO T with
   |false=>rfl
   |true=>have:=pw ht;omega) (Sm.refl _ _))
  go_in;go_wp2_with fail;go_ret2;exact HE.out
 ·go_in;go_wp2_with fail
  go_loopw [4] (fun i wr=>F6 w T i wr) (fun i _=>T.length-(intOf i).toNat)
  case atStart=>exact⟨0,Nat.zero_le _,rfl,by simp,Sm.refl _ _⟩
  case round=>
   obtain⟨k,hk,rfl,hall,hs⟩:=hrel;have HS:=aa (ab hs hall);clear hs hall;by_cases hlt:k < T.length
   ·obtain⟨x,hx⟩:∃ x,T[k]?=some x:=⟨_,List.getElem?_eq_getElem hlt⟩;obtain⟨t1,t2,t3⟩:=cW hx;obtain⟨bb,off,hAe,hbb,r0⟩:=(HA.out.1.no HS.out.1).at t1;subst hAe;obtain⟨_,_,hA1,_,r1⟩:=(HA.out.1.no HS.out.1).at t2;injection hA1 with hA1;injection hA1 with e1 e2;subst e1 e2;obtain⟨_,_,hA1,_,r2⟩:=(HA.out.1.no HS.out.1).at t3;injection hA1 with hA1;injection hA1 with e1 e2;subst e1 e2;rw [show off+(k * 3+1)=off+k * 3+1 by omega] at r1;rw [show off+(k * 3+2)=off+k * 3+2 by omega] at r2;have k1:(0:Int)≤(k:Int):=by omega
    have k2:(k:Int) < (T.length:Int):=by omega
    obtain⟨s1,s2,s3⟩:=HA.out.2.2 x (List.mem_of_getElem? hx);have HX:=aa hx;clear hx t1 t2 t3;obtain⟨p,t,d⟩:=x;dsimp only at r0 r1 r2 s1 s2 s3;go_wp2_with fail;have d0:∀ x:eB (wr.alloc (.cells #[.string p,.string t,.string d] 101)),x.w.cell? ⟨wr.heap.size,0,none⟩=some (.string p):=fun x=>x.cell (by simp) ((Bk.new wr _ _).at 0 rfl);have d1:∀ x:eB (wr.alloc (.cells #[.string p,.string t,.string d] 101)),x.w.cell? ⟨wr.heap.size,1,none⟩=some (.string t):=fun x=>x.cell (by simp) ((Bk.new wr _ _).at 1 rfl);have d2:∀ x:eB (wr.alloc (.cells #[.string p,.string t,.string d] 101)),x.w.cell? ⟨wr.heap.size,2,none⟩=some (.string d):=fun x=>x.cell (by simp) ((Bk.new wr _ _).at 2 rfl);have HS4:=aa (HS.out.1.alloc (.cells #[.string p,.string t,.string d] 101));obtain⟨pb,hpb⟩:=ai (cR (af p));have HPl:=aa hpb;obtain⟨vl,hvl⟩:=ai (di (af t));have HVl:=aa (show di t.data.toList=vl from hvl);have ht:t.size≤1000000:=by omega
    obtain⟨r,hr⟩:=ai ((⟨(ay t.data.toList).toArray⟩:ByteArray));have HTr:=aa hr;have hq:ay (af t)=af t↔(r.toList==t.toList)=true:=by
     rw [←hr,ByteArray.toList_eq,ByteArray.toList_eq,beq_iff_eq];rfl
    clear r0 r1 r2
    cases pb with
    |false=>
     have HB:=aa (gc (x:=⟨p,t,d⟩) (fun h=>by rw [hpb] at h;cases h.1));refine aF (by kernel_rfl) (by kernel_rfl) ?_
     repeat (go_big_quiet_step ((first
      |(go_at_call 60;exact Calls.ext (dE HPl s1 _))
      |(go_at_call 61;exact Calls.ext_eq (cF HVl ht _))
      |(go_at_call 62;exact Calls.ext_eq (ei HTr ht _)))))
     refine wpQuiet_nil ?_;intro _ hw';obtain⟨⟨w3,hs3⟩,hw''⟩:=hw';subst hw'';clear d0 d1 d2;have HE:=aa (dv (w:=w) (eC (List.mem_of_getElem? HX.out) HB.out) (HS4.out.tt hs3));clear hs3;go_wp2_with fail;go_ret2;exact HE.out
    |true=>
     by_cases q2:t.size=0
     ·have e2:t.toList=[]:=by
       rw [ByteArray.toList_eq];exact List.eq_nil_of_length_eq_zero (by have:=ag t;unfold af at this;omega)
      have HB:=aa (gc (x:=⟨p,t,d⟩) (fun h=>h.2.1 q2));refine aF (by kernel_rfl) (by kernel_rfl) ?_
      repeat (go_big_quiet_step ((first
       |(go_at_call 60;exact Calls.ext (dE HPl s1 _))
       |(go_at_call 61;exact Calls.ext_eq (cF HVl ht _))
       |(go_at_call 62;exact Calls.ext_eq (ei HTr ht _)))))
      refine wpQuiet_nil ?_;intro _ hw';obtain⟨⟨w3,hs3⟩,hw''⟩:=hw';subst hw'';clear d0 d1 d2;have HE:=aa (dv (w:=w) (eC (List.mem_of_getElem? HX.out) HB.out) (HS4.out.tt hs3));clear hs3;go_wp2_with fail;go_ret2;exact HE.out
     have e2:¬t.toList=[]:=fun e=>by
      rw [ByteArray.toList_eq] at e;have:=ag t;unfold af at this;rw [e] at this;exact q2 this.symm
     have e2b:t.toList.isEmpty=false:=by cases h:t.toList with
      |nil=>exact absurd h e2
      |cons=>rfl
     by_cases q3:t.size≤100
     rotate_left
     ·have e3:(100:Int) < (t.size:Int):=by omega
      have HB:=aa (gc (x:=⟨p,t,d⟩) (fun h=>q3 h.2.2.1));refine aF (by kernel_rfl) (by kernel_rfl) ?_
      repeat (go_big_quiet_step ((first
       |(go_at_call 60;exact Calls.ext (dE HPl s1 _))
       |(go_at_call 61;exact Calls.ext_eq (cF HVl ht _))
       |(go_at_call 62;exact Calls.ext_eq (ei HTr ht _)))))
      refine wpQuiet_nil ?_;intro _ hw';obtain⟨⟨w3,hs3⟩,hw''⟩:=hw';subst hw'';clear d0 d1 d2;have HE:=aa (dv (w:=w) (eC (List.mem_of_getElem? HX.out) HB.out) (HS4.out.tt hs3));clear hs3;go_wp2_with fail;go_ret2;exact HE.out
     have e3:¬(100:Int) < (t.size:Int):=by omega
     have e3b:(t.size:Int)≤100:=by omega
     cases vl with
     |false=>
      have HB:=aa (gc (x:=⟨p,t,d⟩) (fun h=>by rw [hvl] at h;cases h.2.2.2.1));refine aF (by kernel_rfl) (by kernel_rfl) ?_
      repeat (go_big_quiet_step ((first
       |(go_at_call 60;exact Calls.ext (dE HPl s1 _))
       |(go_at_call 61;exact Calls.ext_eq (cF HVl ht _))
       |(go_at_call 62;exact Calls.ext_eq (ei HTr ht _)))))
      refine wpQuiet_nil ?_;intro _ hw';obtain⟨⟨w3,hs3⟩,hw''⟩:=hw';subst hw'';clear d0 d1 d2;have HE:=aa (dv (w:=w) (eC (List.mem_of_getElem? HX.out) HB.out) (HS4.out.tt hs3));clear hs3;go_wp2_with fail;go_ret2;exact HE.out
     |true=>
      obtain⟨eq,heq⟩:=ai ((r.toList==t.toList))
      cases eq with
      |false=>
       have HB:=aa (gc (x:=⟨p,t,d⟩) (fun h=>by have:=hq.1 h.2.2.2.2.1;rw [heq] at this;cases this));refine aF (by kernel_rfl) (by kernel_rfl) ?_
       repeat (go_big_quiet_step ((first
        |(go_at_call 60;exact Calls.ext (dE HPl s1 _))
        |(go_at_call 61;exact Calls.ext_eq (cF HVl ht _))
        |(go_at_call 62;exact Calls.ext_eq (ei HTr ht _)))))
       refine wpQuiet_nil ?_;intro _ hw';obtain⟨⟨w3,hs3⟩,hw''⟩:=hw';subst hw'';clear d0 d1 d2;have HE:=aa (dv (w:=w) (eC (List.mem_of_getElem? HX.out) HB.out) (HS4.out.tt hs3));clear hs3;go_wp2_with fail;go_ret2;exact HE.out
      |true=>
       by_cases q4:d.size≤2048
       rotate_left
       ·have e4:(2048:Int) < (d.size:Int):=by omega
        have HB:=aa (gc (x:=⟨p,t,d⟩) (fun h=>q4 h.2.2.2.2.2));refine aF (by kernel_rfl) (by kernel_rfl) ?_
        repeat (go_big_quiet_step ((first
         |(go_at_call 60;exact Calls.ext (dE HPl s1 _))
         |(go_at_call 61;exact Calls.ext_eq (cF HVl ht _))
         |(go_at_call 62;exact Calls.ext_eq (ei HTr ht _)))))
        refine wpQuiet_nil ?_;intro _ hw';obtain⟨⟨w3,hs3⟩,hw''⟩:=hw';subst hw'';clear d0 d1 d2;have HE:=aa (dv (w:=w) (eC (List.mem_of_getElem? HX.out) HB.out) (HS4.out.tt hs3));clear hs3;go_wp2_with fail;go_ret2;exact HE.out
       have e4:¬(2048:Int) < (d.size:Int):=by omega
       have e4b:(d.size:Int)≤2048:=by omega
       have HB:=aa (zj (x:=⟨p,t,d⟩) hpb q2 q3 hvl (hq.2 heq) q4);refine aF (by kernel_rfl) (by kernel_rfl) ?_
       repeat (go_big_quiet_step ((first
        |(go_at_call 60;exact Calls.ext (dE HPl s1 _))
        |(go_at_call 61;exact Calls.ext_eq (cF HVl ht _))
        |(go_at_call 62;exact Calls.ext_eq (ei HTr ht _)))))
       refine wpQuiet_nil ?_;intro _ hw';obtain⟨⟨w3,hs3⟩,hw''⟩:=hw';subst hw'';clear d0 d1 d2;have HS5:=aa (HS4.out.tt hs3);clear hs3;go_wp2_with fail;exact⟨⟨k+1,by omega,by go_num,gD HS.out.2 HX.out HB.out,HS5.out⟩,by simp [intOf];omega⟩
   ·obtain rfl:k=T.length:=by omega
    have ht:=HS.out.2;rw [List.take_length] at ht;have HT:=aa (rl (by omega) ht);clear ht;go_wp2_with (refine bE rfl _ _ 26 101 rfl Tryz.underlying26 _ 3 48 xz rfl (by decide) (by decide) w.heap.size 0 _ [] rfl (gg wr _ _ HS.out.1.size) A T.length c (bB T) rfl HA.out.2.1 (kn T) (HA.out.1.no (HS.out.1.alloc _)) (kp T) (by omega) (Nat.le_trans HS.out.1.size (by simp)) ?_;intro vT w2 hvT hs2 hvb;refine RowKit.Hid.out ?_);refine aa ?_;rw [Nat.zero_add] at hvT;rw [List.nil_append] at hvT;have hs2':Sm No w w2:=(HS.out.1.alloc (.cells #[] 101)).trans hs2 (fun b hb e=>by
     have e':some wr.heap.size=some b:=e;injection e' with e';have:=HS.out.1.size;omega)
    obtain⟨AT,cT,rfl,_⟩:=au hvT;obtain⟨s,hse⟩:=ai w2.heap.size;obtain⟨w3,hw3⟩:∃ w3,w2.alloc (.cells #[.slice none 0 0,.slice AT T.length cT] 117)=w3:=⟨_,rfl⟩;have hs3:Sm No w2 w3:=by rw [←hw3];exact(Sm.refl _ _).alloc _
    have hB3:Bk w3 s 117 #[.slice none 0 0,.slice AT T.length cT]:=by rw [←hw3,←hse];exact Bk.new w2 _ _
    have hvTw:∀ b,(Value.slice AT T.length cT).ownBlock=some b→w.heap.size≤b∧b < w2.heap.size:=fun b hb=>World.ownsRow.lt hvT b hb;have hvT3:uU w3 0 (.slice AT T.length cT) T:=bI (ae hvT hs3 (fun _ _ h=>h)) (fun b _=>Nat.zero_le b);have hws:w.heap.size≤s:=by rw [←hse];exact hs2'.size
    have hR3:gd w w3 (fun b=>(Value.slice AT T.length cT).ownBlock=some b) 117 [.slice AT T.length cT] s []:=
     ⟨fun b=>b=s,⟨.slice none 0 0,[],hB3,World.ownsRow_nil _ _ _ 3,rfl,fun x hx=>(List.not_mem_nil hx).elim,rfl,fun g hg=>by simp [Value.ownBlock] at hg,fun x hx=>(List.not_mem_nil hx).elim,fun b hb=>by rw [hb];exact hB3.lt,by decide,by decide⟩,hs2'.tt hs3,fun b hb=>by rw [hb];exact hws,fun b hb=>⟨fY hvT3 hb,fun e=>by have:=(hvTw b hb).2;omega⟩⟩
    have H3:=aa (ab hR3 (ab hvT3 (ab hws hvTw)));have HW3:=aa (ab hw3 hse);clear hs2 hs2' hvT hse hw3 hs3 hB3 hvT3 hws hvTw hR3 hvb;go_wp2_with fail;rw [HW3.out.1,HW3.out.2];have H4:=aa (ab H3.out.1 H3.out.2.1);have hz3:w3.heap.size=s+1:=by rw [←HW3.out.1,←HW3.out.2];simp
    have HZ3:=aa hz3;clear hz3;refine(ks (w:=w) (A:=some ⟨s+1,0,none⟩) (c:=1) (s:=⟨#[47,101,99,104,111]⟩) (id:=1) (ms:=[[80,79,83,84]]) (H4.out.1.no ((Sm.refl No w3).alloc (.cells #[.string ⟨#[80,79,83,84]⟩] 9))) oa.nil (by decide) (dt (Bk.newAt w3 9 #[.string ⟨#[80,79,83,84]⟩] HZ3.out.symm)) (fun e=>by cases e) (by decide) (by decide)).mono ?_;rintro e w5 ⟨rfl,hR,hs⟩;rw [vJ];rw [BP] at hR;have hv:=ae (World.ownsRow.alloc H4.out.2 (.cells #[.string ⟨#[80,79,83,84]⟩] 9)) hs (fun b hb h=>h hb);have H5:=aa (ab hR hv);clear hR hs hv;go_wp2_with fail;refine(ks (w:=w) (A:=some ⟨w5.heap.size,0,none⟩) (c:=1) (s:=⟨#[47,107,101,121]⟩) (id:=2) (ms:=[[71,69,84]]) (H5.out.1.no ((Sm.refl No w5).alloc (.cells #[.string ⟨#[71,69,84]⟩] 9))) ⟨by decide,by decide⟩ (by decide) (dt (Bk.new w5 9 #[.string ⟨#[71,69,84]⟩])) (fun e=>by cases e) (by decide) (by decide)).mono ?_;rintro e w6 ⟨rfl,hR,hs⟩;rw [uD];rw [BX] at hR;have hv:=ae (World.ownsRow.alloc H5.out.2 (.cells #[.string ⟨#[71,69,84]⟩] 9)) hs (fun b hb h=>h hb);have H6:=aa (ab hR hv);clear hR hs hv;go_wp2_with fail;refine(ks (w:=w) (A:=some ⟨w6.heap.size,0,none⟩) (c:=1) (s:=⟨#[47,115,116,97,116,117,115]⟩) (id:=3) (ms:=[[71,69,84]]) (H6.out.1.no ((Sm.refl No w6).alloc (.cells #[.string ⟨#[71,69,84]⟩] 9))) ⟨by decide,by decide⟩ (by decide) (dt (Bk.new w6 9 #[.string ⟨#[71,69,84]⟩])) (fun e=>by cases e) (by decide) (by decide)).mono ?_;rintro e w7 ⟨rfl,hR,hs⟩;rw [wF];rw [BS] at hR;have hv:=ae (World.ownsRow.alloc H6.out.2 (.cells #[.string ⟨#[71,69,84]⟩] 9)) hs (fun b hb h=>h hb);have H7:=aa (ab hR hv);clear hR hs hv;go_wp2_with fail
    go_loopw [7] (fun i wr=>GK w T s AT cT i wr) (fun i _=>T.length-(intOf i).toNat)
    case atStart=>exact⟨0,Nat.zero_le _,rfl,by rw [List.take_zero];exact H7.out.1,H7.out.2,CB T⟩
    case round=>
     obtain⟨k,hk,rfl,hR,hv,hap⟩:=hrel;have H8:=aa (ab hR (ab hv hap));clear hR hv hap;by_cases hlt:k < T.length
     ·obtain⟨x,hx⟩:∃ x,T[k]?=some x:=⟨_,List.getElem?_eq_getElem hlt⟩;obtain⟨t1,_,_⟩:=cW hx;obtain⟨bb,off,hAe,hbw,r0⟩:=HA.out.1.at t1;subst hAe;have r0:=H8.out.1.sm.cell hbw r0;have hbb:=Nat.lt_of_lt_of_le hbw H8.out.1.sm.size;have k1:(0:Int)≤(k:Int):=by omega
      have k2:(k:Int) < (T.length:Int):=by omega
      obtain⟨s1,_,_⟩:=HA.out.2.2 x (List.mem_of_getElem? hx);have hk40:k < 40:=by omega
      have hadd:=xj (T:=T.take k) (lm HT.out (List.mem_of_getElem? hx)) (by rw [List.length_take];omega) k;have hap1:=rR hx;have hlaid:=sA (i:=k) hx;have hpats:=ry (T.take k);have hnot:=fun h=>oZ hx h;have HX:=aa (ab hx (ab hadd (ab hap1 (ab hlaid (ab hpats hnot)))));clear hx t1 hadd hap1 hlaid hpats hnot;obtain⟨L,hL⟩:=ai (ao (T.take k));have HL:=aa hL;have hcl:=H8.out.1.cell;rw [hL] at hcl;obtain⟨hsl,AL,cL,c0,hget⟩:=hcl;have hLl:L.length≤43:=by rw [←hL,fx,List.length_take];omega
      have HG:=aa hget;clear hget hL;obtain⟨wb,hwb⟩:∃ wb:World,wb=wr:=⟨_,rfl⟩;subst hwb;go_wp2_with fail
      go_loopw [8] (fun i wr'=>GY wb L (af x.path) i wr') (fun i _=>L.length-(intOf i).toNat)
      case atStart=>exact⟨0,Nat.zero_le _,rfl,by simp,Sm.refl _ _⟩
      case round=>
       obtain⟨j,hj,rfl,hne,hs⟩:=hrel;have c0:=hs.cell hsl c0;have r0:=hs.cell hbb r0;have hsl:=Nat.lt_of_lt_of_le hsl hs.size;have hbb:=Nat.lt_of_lt_of_le hbb hs.size;by_cases hjl:j < L.length
       ·obtain⟨y,hy⟩:∃ y,L[j]?=some y:=⟨_,List.getElem?_eq_getElem hjl⟩;obtain⟨g,hAL,hg,p0⟩:=HG.out j y hy;subst hAL;have p0:=hs.cell hg p0;obtain⟨yb,hyb,hyt⟩:∃ yb:ByteArray,fp y.pat=.string yb∧af yb=y.pat:=⟨⟨y.pat.toArray⟩,rfl,eA _⟩;rw [hyb] at p0;have HS3:=aa (ab hs (ab hne (ab hy hyt)));clear hs hne hy hyb;have j1:(0:Int)≤(j:Int):=by omega
        have j2:(j:Int) < (L.length:Int):=by omega
        by_cases he:y.pat=af x.path
        ·have e2:yb.toList=x.path.toList:=(aN yb _).2 ((hyt.trans he).trans ((aN x.path _).1 rfl).symm.symm);have e1:(yb.toList==x.path.toList)=true:=by rw [e2];exact beq_self_eq_true _
         have HE:=aa (fun n=>tJ (w:=w) HT.out (HX.out.2.2.2.2.2 (by
          rw [←HX.out.2.2.2.2.1,HL.out];exact List.mem_map.2 ⟨y,List.mem_of_getElem? HS3.out.2.2.1,he⟩)) ((H8.out.1.sm.tt HS3.out.1).drewN n))
         clear hyt he;go_wp2_with fail;go_quiet (fail);go_wp2_with fail;go_ret2;exact HE.out _
        ·have e2:¬yb.toList=x.path.toList:=fun e=>he (hyt.symm.trans ((aN yb (af x.path)).1 (e.trans ((aN x.path (af x.path)).2 rfl))));have e1:(yb.toList==x.path.toList)=false:=by rw [beq_eq_false_iff_ne];exact e2
         have HN:=aa (yL (p:=fun y=>y.pat≠af x.path) HS3.out.2.1 HS3.out.2.2.1 he);clear hyt he;go_wp2_with fail;go_quiet (fail);go_wp2_with fail;exact⟨⟨j+1,by omega,by go_num,HN.out,HS3.out.1.drewN _⟩,by simp [intOf];omega⟩
       ·obtain rfl:j=L.length:=by omega
        rw [List.take_length] at hne;have hm:af x.path∉dX::gH::fe::cy (T.take k):=by
         rw [←HX.out.2.2.2.2.1,HL.out];intro hm;obtain⟨y,hy,e⟩:=List.mem_map.1 hm;exact hne y hy e
        have hc:bW (ao (T.take k)) (bU k x)=0:=HX.out.2.1.trans (if_neg (fun h=>hm (List.mem_cons_of_mem _ h)));have HC:=aa hc;have HS':=aa (HX.out.2.2.2.1 hc);have HAp:=aa (HX.out.2.2.1.2 ⟨H8.out.2.2,hm⟩);have hR0:=H8.out.1.no hs;have hv0:=ae H8.out.2.1 hs (fun _ _ h=>h);have i3:IntKind.i64.wrap (10+(k:Int))=10+(k:Int):=IntWalk.i64_in _ (by omega);have hs2:Sm No wr ((wr.alloc (.cells #[.string ⟨#[71,69,84]⟩] 9)).drew):=((Sm.refl No wr).alloc _).drew;have hbM:Bk ((wr.alloc (.cells #[.string ⟨#[71,69,84]⟩] 9)).drew) wr.heap.size 9 #[.string ⟨#[71,69,84]⟩]:=(Bk.new wr _ _).drew;have hR2:gd w ((wr.alloc (.cells #[.string ⟨#[71,69,84]⟩] 9)).drew) (fun b=>(Value.slice AT T.length cT).ownBlock=some b∨b=bb) 117 [.slice AT T.length cT] s (ao (T.take k)):=(hR0.no hs2).old (fun b hb=>by
         rcases hb with hb|rfl
         ·exact Or.inl hb
         ·exact Or.inr hbw)
        have hb2:=Nat.lt_of_lt_of_le hbb hs2.size;have HN:=aa (ab hR2 (ab (ae hv0 hs2 (fun _ _ h=>h)) (ab hbM (ab hb2 (hs2.cell hbb r0)))));have hTk:(T.take k).length≤40:=by rw [List.length_take];omega
        clear hne hm hc hR0 hv0 hs hs2 hbM hR2 hb2;go_wp2_with fail
        go_region_held3 (fun w'=>w'.cell? ⟨bb,off+k * 3,none⟩=some (.string x.path)) (first|exact r0|exact r9|go_keep)
         ((go_at_call 63;(with_reducible refine(Am HC HS' HN.out.1 hTk s1 HN.out.2.2.1).mono ?_);rintro e w9 ⟨rfl,hR9,hs9⟩;have r9:=hs9.cellS HN.out.2.2.2.1 (fun h=>h (Or.inr rfl)) HN.out.2.2.2.2))
        all_goals
         have HF:=aa (ab (hR9.old (K2:=fun b=>(Value.slice AT T.length cT).ownBlock=some b) (fun b hb=>Or.inl (Or.inl hb))) (ae HN.out.2.1 hs9 (fun b hb h=>h (Or.inl hb))));clear hR9 hs9;go_wp2_with fail;exact⟨⟨k+1,by omega,by go_num,HF.out.1,HF.out.2,HAp.out⟩,by simp [intOf];omega⟩
     ·obtain rfl:k=T.length:=by omega
      have hap:cD T=0:=by unfold cD;rw [if_pos HT.out,if_pos (yJ H8.out.2.2)]
      have hR:=H8.out.1;rw [List.take_length] at hR;have H9:=aa (ab hR hap);clear hR hap;go_wp2_with fail;go_ret2;obtain⟨Q,g1,g2,g3,g4⟩:=H9.out.1;refine Or.inl ⟨H9.out.2,s,fun b=>Q b∨(Value.slice AT T.length cT).ownBlock=some b,rfl,⟨Q,_,g1,H8.out.2.1,fun b hb=>hb,fun b hb=> ?_⟩,g2,fun b hb=> ?_⟩
      ·rcases hb with hb|hb
       ·exact g1.ltO b hb
       ·exact fY H8.out.2.1 hb
      ·rcases hb with hb|hb
       ·exact g3 b hb
       ·exact(H3.out.2.2.2 b hb).1
def AF(kind:ByteArray)(l:List UInt8):fQ:=⟨200,[(bS kQ,kind)],l,[]⟩
def kI(w:World)(B:Nat)(r:fQ)(e:Ending)(w':World):Prop:=∃ v,e=.returned v∧im w' B v r∧Sm No w w'
def uC(w:World)(B:Nat)(kind:ByteArray)(l:List UInt8)(e:Ending)(w':World):Prop:=∃ vF vB,e=.returned (.agg #[.int .i64 200,vF,vB,.slice none 0 0])∧aH w' B 143 2 vF 1 (av [(bS kQ,kind)])∧je w' B 5 vB l∧Sm No w w'
theorem uC.ans{w w':World}{B:Nat}{kind:ByteArray}{l:List UInt8}{e:Ending}(h:uC w B kind l e w'):kI w B (AF kind l) e w':=by
 obtain⟨vF,vB,rfl,h1,h2,h3⟩:=h;exact⟨_,rfl,⟨_,_,_,rfl,h1,h2,aH.nil _ _ _ _⟩,h3⟩
theorem Bk.ownU{w:World}{g n size B:Nat}{t:TypeId}{cs:Array Value}(h:Bk w g t cs)(hB:B≤g)(hn:cs.size=n * size)(hm:n≤maxLen):aH w B t size (.slice (some ⟨g,0,none⟩) n n) n cs.toList:=
 ⟨by simpa using hn,Or.inr ⟨g,n,cs,(0,0),rfl,hB,h,Or.inl rfl,Nat.le_refl _,hm,hn,by rw [←hn];exact List.take_length⟩⟩
theorem rm(w:World)(B:Nat)(hB:B≤w.heap.size)(kind:ByteArray)(v:Value)(l:List UInt8)(hv:je w B 5 v l):
 Calls Tryz.prog 132 #[.string kind,v] w (uC w B kind l):=by
 obtain⟨A,c,rfl,_⟩:=hv.row;have HV:=aa (ab hv hB);clear hv hB;obtain⟨n,hn⟩:=ai l.length;have HN:=aa hn;rw [hn] at HV ⊢;clear hn;go_in;go_wp2_with fail;have hs:Sm No w (w.alloc (.cells #[.int .i64 200,.slice (some ⟨w.heap.size+1,0,none⟩) 1 1,.slice A n c,.slice none 0 0] 93)):=(Sm.refl No w).alloc _;have hb0:=(Bk.new w 93 #[.int .i64 200,.slice (some ⟨w.heap.size+1,0,none⟩) 1 1,.slice A n c,.slice none 0 0]).alloc (.cells #[.string ⟨#[67,111,110,116,101,110,116,45,84,121,112,101]⟩,.string kind] 143);have c0:=hb0.at 0 (v:=.int .i64 200) rfl;have c1:=hb0.at 1 (v:=.slice (some ⟨w.heap.size+1,0,none⟩) 1 1) rfl;have c2:=hb0.at 2 (v:=.slice A n c) rfl;have c3:=hb0.at 3 (v:=.slice none 0 0) rfl;have hb:=Bk.newAt (w.alloc (.cells #[.int .i64 200,.slice (some ⟨w.heap.size+1,0,none⟩) 1 1,.slice A n c,.slice none 0 0] 93)) 143 #[.string ⟨#[67,111,110,116,101,110,116,45,84,121,112,101]⟩,.string kind] (g:=w.heap.size+1) (by simp);refine bodyPost_ret (v:=.agg #[.int .i64 200,.slice (some ⟨w.heap.size+1,0,none⟩) 1 1,.slice A n c,.slice none 0 0]) (by simp [results,Tryz.results132,go_sem,c0,c1,c2,c3]) rfl ⟨_,_,rfl,hb.ownU (by have:=HV.out.2;omega) rfl (by decide),?_,hs.alloc _⟩;exact HV.out.1.no (hs.alloc _)
theorem mf(w:World)(B:Nat)(hB:B≤w.heap.size)(kind:ByteArray)(v:Value)(l:List UInt8)(hv:je w B 5 v l):
 Calls Tryz.prog 132 #[.string kind,v] w (kI w B (AF kind l)):=(rm w B hB kind v l hv).mono fun _ _ h=>h.ans
theorem bX{w w9:World}{r0 B:Nat}{st:Int}{vF vB vP a b c d:Value}{r:fQ}(hr0:w.heap.size≤r0)(hs:Sm No w w9)(hb:Bk w9 r0 93 #[a,b,c,d])(hB:r0 < B)(hR:im w9 B (.agg #[.int .i64 st,vF,vB,vP]) r):
 kI w w.heap.size r (.returned (.agg #[.int .i64 st,vF,vB,vP])) ((((w9.setCell ⟨r0,0,none⟩ (.int .i64 st)).setCell ⟨r0,1,none⟩ vF).setCell ⟨r0,2,none⟩ vB).setCell ⟨r0,3,none⟩ vP)∧
 Bk ((((w9.setCell ⟨r0,0,none⟩ (.int .i64 st)).setCell ⟨r0,1,none⟩ vF).setCell ⟨r0,2,none⟩ vB).setCell ⟨r0,3,none⟩ vP) r0 93 #[.int .i64 st,vF,vB,vP]:=by
 have hS:Sm (fun b=>b=r0) w9 _:=((((Sm.refl _ w9).set1 0 (.int .i64 st)).set1 1 vF).set1 2 vB).set1 3 vP;exact⟨⟨_,rfl,(hR.sm hS (fun b e=>by omega)).base (by omega),hs.trans hS (fun b hb e=>by omega)⟩,(((hb.set 0 (.int .i64 st)).set 1 vF).set 2 vB).set 3 vP⟩
def Ah:List UInt8:=[44,32]
def FV:List UInt8:=[65,108,108,111,119]
def nJ(al:List ah):List UInt8:=Lib.join al Ah
def dS(al:List ah):aM:=(bS FV,bS (nJ al))
theorem CI{w:World}{g:Nat}{t:TypeId}{a b:ByteArray}(h:Bk w g t #[.string a,.string b]):ec w (some ⟨g,0,none⟩) [(a,b)]:=by
 intro k hk;have:k=0:=by simpa using hk
 subst this;exact⟨g,0,rfl,h.lt,h.at 0 rfl,h.at 1 rfl⟩
def pV(al:List ah):Prop:=al.length≤1000∧∀ t∈al,t.length≤1000
theorem Bp{al:List ah}(h:∀ t∈al,t.length≤1000):(Lib.joinTail Ah al).length≤al.length * 1002:=by
 induction al with
 |nil=>simp [Lib.joinTail]
 |cons x r ih=>
  have h1:=h x List.mem_cons_self;have h2:=ih (fun t ht=>h t (List.mem_cons_of_mem _ ht));have e:Lib.joinTail Ah (x::r)=(Ah++x)++Lib.joinTail Ah r:=rfl;rw [e,List.length_append,List.length_append,List.length_cons];have:Ah.length=2:=rfl;omega
theorem Bf{al:List ah}(h:∀ t∈al,t.length≤1000):(nJ al).length≤al.length * 1002:=by
 cases al with
 |nil=>simp [nJ,Lib.join_nil]
 |cons x r=>
  have h1:=h x List.mem_cons_self;have h2:=Bp (fun t ht=>h t (List.mem_cons_of_mem _ ht));unfold nJ;rw [Lib.join_cons,List.length_append,List.length_cons];omega
theorem yC(w:World)(A:Option Addr)(c:Nat)(al:List ah)(hA:ax w A (al.map aP))(hm:pV al)(hc:al.length≤c):
 Calls Tryz.prog 109 #[.slice A al.length c,.string ⟨#[44,32]⟩] w fun e w'=>e=.returned (.string (bS (nJ al)))∧Sm No w w':=by
 cases al with
 |nil=>exact(Tryz.strings_Join_none A c _ w).mono fun e w' ⟨he,hw⟩=>⟨he,hw ▸ Sm.refl _ _⟩
 |cons x r=>
  obtain⟨bb,off,rfl,hb,_⟩:=hA.at (j:=0) (u:=aP x) rfl;have e1:((x::r).map fun t=>(⟨t.toArray⟩:ByteArray)).map (·.data.toList)=x::r:=by
   rw [List.map_map];exact List.map_id'' (fun _=>rfl) _
  have hJ:=Tryz.strings_Join bb off c ((x::r).map fun t=>(⟨t.toArray⟩:ByteArray)) ⟨#[44,32]⟩ w (fun j y hj=>by
   obtain⟨_,_,e,_,h⟩:=hA.at (j:=j) (u:=.string y) (by
    rw [List.getElem?_map] at hj ⊢
    cases hx:(x::r)[j]? with
    |none=>rw [hx] at hj;cases hj
    |some z=>rw [hx] at hj;injection hj with hj;rw [←hj];rfl)
   injection e with e;injection e with e1 e2;subst e1 e2;exact h) hb (by rw [List.length_map];have:=hm.1;omega) (by rw [List.length_map];exact hc) (by
   rw [e1];have:=Bf hm.2;unfold nJ at this;have:=hm.1;exact Nat.le_trans (by assumption) (by omega))
  rw [e1,List.length_map] at hJ;exact hJ.mono fun e w' ⟨he,hB⟩=>⟨he,Sm.of_below hB No⟩
theorem jF(w:World)(hg:G1 w)(c:Int)(hc0:0≤c)(hc1:c≤9223372036854775807)(A:Option Addr)(cap:Nat)(al:List ah)(hA:ax w A (al.map aP))(hm:pV al)(hc:al.length≤cap):
 Calls Tryz.prog 129 #[.int .i64 c,.slice A al.length cap] w (kI w w.heap.size (aD c [dS al])):=by
 have HG:=aa hg;obtain⟨J,hJ⟩:=ai (bS (nJ al));have HM:=aa (fun w' (hs:Sm No w w')=>hJ ▸ yC w' A cap al (hA.no hs) hm hc);have HF:=aa (show dS al=(⟨#[65,108,108,111,119]⟩,J) from by unfold dS;rw [hJ];rfl);clear hA hm hc hg hJ;obtain⟨r0,hr0⟩:=ai w.heap.size;have HR:=aa hr0;rw [hr0];clear hr0;go_in;go_wp2_with fail;refine(HM.out _ ((Sm.refl No w).alloc _)).mono ?_;rintro e w2 ⟨rfl,hs2⟩;have hb2:=(Bk.newAt w 93 #[.int .i64 0,.slice none 0 0,.slice none 0 0,.slice none 0 0] HR.out.symm).sm hs2 (fun h=>h);have hs2:=((Sm.refl No w).alloc (.cells #[.int .i64 0,.slice none 0 0,.slice none 0 0,.slice none 0 0] 93)).tt hs2;rw [HR.out];have H2:=aa (ab hb2 hs2);clear hb2 hs2;go_wp2_with fail;refine(eF _ ((HG.out.no H2.out.2).no ((Sm.refl No w2).alloc _)) c hc0 hc1 (some ⟨w2.heap.size,0,none⟩) 1 [(⟨#[65,108,108,111,119]⟩,J)] (CI (Bk.new w2 _ _)) (fun e=>by cases e) (by simp)).mono ?_;rintro e w3 ⟨v,rfl,hR,hs3⟩;have hb3:=(H2.out.1.alloc (.cells #[.string ⟨#[65,108,108,111,119]⟩,.string J] 143)).sm hs3 (fun h=>h);have hs3:=(H2.out.2.alloc (.cells #[.string ⟨#[65,108,108,111,119]⟩,.string J] 143)).tt hs3;have hlt:r0 < (w2.alloc (.cells #[.string ⟨#[65,108,108,111,119]⟩,.string J] 143)).heap.size:=by have:=H2.out.1.lt;simp;omega
 obtain⟨R,hRR⟩:∃ R,aD c [(⟨#[65,108,108,111,119]⟩,J)]=R:=⟨_,rfl⟩;rw [hRR] at hR;have HRR:=aa hRR;clear hRR;obtain⟨vF,vB,vP,rfl,hFF,hB,hP⟩:=hR;obtain⟨A1,c1',rfl,_⟩:=hFF.row;obtain⟨A2,c2',rfl,_⟩:=hB.row;obtain⟨A3,c3',rfl,_⟩:=hP.row;have HD:=aa (bX (Nat.le_of_eq HR.out) hs3 hb3 hlt ⟨_,_,_,rfl,hFF,hB,hP⟩);have hl:=hb3.lt;have f0:=hb3.fz 0;have f1:=hb3.fz 1;have f2:=hb3.fz 2;have f3:=hb3.fz 3;have d0:=hb3.at 0 rfl;have d1:=hb3.at 1 rfl;have d2:=hb3.at 2 rfl;have d3:=hb3.at 3 rfl;clear hFF hB hP hb3 hs3 hlt;go_wp2_with fail;have c0:=HD.out.2.at 0 rfl;have c1:=HD.out.2.at 1 rfl;have c2:=HD.out.2.at 2 rfl;have c3:=HD.out.2.at 3 rfl;exact bodyPost_ret (v:=.agg #[.int .i64 R.st,.slice A1 R.fs.length c1',.slice A2 R.body.length c2',.slice A3 R.parts.length c3']) (by simp [results,Tryz.results129,go_sem,c0,c1,c2,c3]) rfl (by have h:=HD.out.1;rw [HR.out] at h;rw [HF.out,HRR.out];exact h)
structure Rq where
 m:ByteArray
 form:Int
 host:ByteArray
 path:ByteArray
 query:ByteArray
 minor:Int
 fs:List aM
 body:List UInt8
 close:Bool
 expect:Bool
def DD(q:Rq)(A:Option Addr)(c:Nat)(B:Option Addr)(d:Nat):Value:=
 .agg #[.string q.m,.int .i64 q.form,.string q.host,.string q.path,.string q.query,.int .i64 q.minor,.slice A q.fs.length c,.slice B q.body.length d,.bool q.close,.bool q.expect]
def m4:List ah:=[lX,fo,DC,nW]
def pW:List UInt8:=[97,112,112,108,105,99,97,116,105,111,110,47,111,99,116,101,116,45,115,116,114,101,97,109]
def wV:List UInt8:=[115,116,114,101,97,109]
def lz(fs:List aM):ByteArray:=if ay (ee (bh [] fs).1 (bS kQ))=[] then bS pW else bS (ay (ee (bh [] fs).1 (bS kQ)))
def qn(T:List br)(q:ah):fQ:=match T.find? (fun x=>af x.path==47::q) with
 |some x=>AF (bS cw) (af x.data)
 |none=>aD 404 []
def cS(n:Nat):List Nat:=(List.range ((n+15) / 16)).map fun k=>min (16 * (k+1)) n
def yO(x:br):fQ:=⟨200,[(bS kQ,x.type)],af x.data,if Lib.hasPrefix (af x.type) wV=true then cS x.data.size else []⟩
def Dg(T:List br)(q:Rq)(i:Int):fQ:=
 if i=1 then AF (lz q.fs) q.body else if i=2 then qn T (af q.query) else if i=3 then AF (bS cw) [111,107,10] else match T[(i-10).toNat]? with
 |some x=>yO x
 |none=>aD 404 []
def co(T:List br)(q:Rq):fQ:=
 if q.form=4 then aD 204 [dS m4] else if q.form=3∨af q.m∉m4 then aD 501 [] else
 if (aW (ao T) (af q.m) (af q.path)).2.2.2=404 then aD 404 [] else
 if (aW (ao T) (af q.m) (af q.path)).2.2.2=405 then aD (if af q.m=DC then 204 else 405) [dS (aW (ao T) (af q.m) (af q.path)).2.2.1] else
 Dg T q (aW (ao T) (af q.m) (af q.path)).1
theorem xm{L:List Lt}{m:ah}{i:Int}(h:tM L m=some i):∃ y∈L,y.id=i:=by
 induction L with
 |nil=>cases h
 |cons x r ih=>
  unfold tM at h;split at h
  ·injection h with h;exact⟨x,List.mem_cons_self,h⟩
  ·obtain⟨y,hy,e⟩:=ih h;exact⟨y,List.mem_cons_of_mem _ hy,e⟩
theorem xL{L:List Lt}{m:ah}{i:Int}(h:ig L m=some i):∃ y∈L,y.id=i:=by
 unfold ig at h;split at h
 ·rename_i j hj
  injection h with h;rw [←h];exact xm hj
 ·split at h
  ·exact xm h
  ·cases h
theorem vU(T:List br)(m path:ah):
 ((aW (ao T) m path).2.2.2=404∨((aW (ao T) m path).2.2.2=405∧pV (aW (ao T) m path).2.2.1∨((aW (ao T) m path).2.2.2=200∧((aW (ao T) m path).1=1∨(aW (ao T) m path).1=2∨(aW (ao T) m path).1=3∨∃ (k:Nat) (x:br),T[k]?=some x∧(aW (ao T) m path).1=10+(k:Int)))))∨40 < T.length:=by
 by_cases hT:40 < T.length
 ·exact Or.inr hT
 refine Or.inl ?_;unfold aW
 cases hf:jt (ao T) path with
 |none=>exact Or.inl rfl
 |some kr=>
  obtain⟨k,rest⟩:=kr;refine Or.inr ?_
  cases hp:ig (gF (ao T) k) m with
  |none=>
   simp only [hp];refine Or.inl ⟨trivial,?_,?_⟩
   ·unfold gN;refine Nat.le_trans (Lib.compact_length_le _) ?_;unfold dF;rw [List.length_mergeSort];have h1:(fq (gF (ao T) k)).length≤43:=by
     have h2:∀ S:List Lt,(∀ y∈S,y.ms.length=1)→(fq S).length=S.length:=by
      intro S hS
      induction S with
      |nil=>rfl
      |cons y S ih=>
       have:=hS y List.mem_cons_self;have:=ih (fun z hz=>hS z (List.mem_cons_of_mem _ hz));unfold fq at *;rw [List.flatMap_cons,List.length_append,List.length_cons];omega
     rw [h2 _ (fun y hy=>by
      rcases ep (List.mem_filter.1 hy).1 with hb|⟨_,_,_,rfl⟩
      ·simp only [jm,List.mem_cons,List.not_mem_nil,or_false] at hb;rcases hb with rfl|rfl|rfl<;>rfl
      ·rfl)]
     refine Nat.le_trans (List.length_filter_le _ _) ?_;rw [fx];omega
    unfold cz;split
    ·rw [List.length_append];simp;omega
    ·omega
   ·intro t ht;unfold gN at ht;have ht:=((lD (sH _)).2 t).1 ht;unfold dF at ht;rw [List.mem_mergeSort] at ht;unfold cz at ht;have h2:t=fo∨t∈fq (gF (ao T) k):=by
     split at ht
     ·rcases List.mem_append.1 ht with h|h
      ·exact Or.inr h
      ·exact Or.inl (by simpa using h)
     ·exact Or.inr ht
    rcases h2 with rfl|h2
    ·decide
    ·obtain⟨y,hy,hty⟩:=List.mem_flatMap.1 h2;rcases ep (List.mem_filter.1 hy).1 with hb|⟨_,_,_,rfl⟩
     ·simp only [jm,List.mem_cons,List.not_mem_nil,or_false] at hb;rcases hb with rfl|rfl|rfl<;>(simp only [List.mem_cons,List.not_mem_nil,or_false] at hty;subst hty;decide)
     ·have:t=lX:=by simpa [bU] using hty
      subst this;decide
  |some i=>
   simp only [hp];refine Or.inr ⟨trivial,?_⟩;obtain⟨y,hy,e⟩:=xL hp;rcases ep (List.mem_filter.1 hy).1 with hb|⟨j,x,hx,rfl⟩
   ·simp only [jm,List.mem_cons,List.not_mem_nil,or_false] at hb;rcases hb with rfl|rfl|rfl
    ·exact Or.inl e.symm
    ·exact Or.inr (Or.inl e.symm)
    ·exact Or.inr (Or.inr (Or.inl e.symm))
   ·refine Or.inr (Or.inr (Or.inr ⟨j,x,hx,?_⟩));rw [←e];show ((10+j:Nat):Int)=_;omega
end Go.Proofs.YtadcjgopaadfjaaGreatDoor
namespace Go.Proofs.YtadcjgopaadfjaaGreatDoor
open Go.RowKit Go.WideShapes Go.ChangeShapes Go.Proofs Go.Deep
def Ff(w:World)(A:Option Addr)(T:List br)(c:Nat):Prop:=
 ax w A (bB T)∧T.length≤c∧c≤4398046511104∧(∀ x∈T,x.path.size≤140737488351232∧x.type.size≤140737488351232∧x.data.size≤140737488351232)∧(A=none→c=0)
def zS(w:World)(A:Option Addr)(l:List UInt8)(c:Nat):Prop:=
 ax w A (aL l)∧l.length≤c∧c≤140737488351232∧(A=none→c=0)
theorem Ff.no{w w':World}{A:Option Addr}{T:List br}{c:Nat}(h:Ff w A T c)(hs:Sm No w w'):Ff w' A T c:=⟨h.1.no hs,h.2⟩
theorem zS.no{w w':World}{A:Option Addr}{l:List UInt8}{c:Nat}(h:zS w A l c)(hs:Sm No w w'):zS w' A l c:=⟨h.1.no hs,h.2⟩
section
variable {H:Type} {enc:TypeId × Value→H} {w:World}
theorem ou{bY:Nat}{v:Value}{d:DataW H}{ps:List MemPlace}(h:DataW.trod enc Tryz.prog w 0 (fun _=>true) true bY 34 [v]=some (d,ps))(hz:∀ n∈d.weights Tryz.prog 34,n≤140737488351232):
 ∃ A l c,v=.slice A l.length c∧zS w A l c:=by
 rcases Bt Tryz.underlying34 (n:=1) (by kernel_rfl) (by decide) h with rfl|⟨a,len,cap,rfl,hl,hm,hwt,hall⟩
 ·exact⟨none,[],0,rfl,ax.nil _ _,Nat.le_refl _,by omega,fun _=>rfl⟩
 ·have each:∀ i,i < len→∃ s:UInt8,True∧∃ bb off,a=⟨bb,off,none⟩∧bb < w.heap.size∧w.cell? ⟨bb,off+i,none⟩=some (.int .u8 s.toNat):=fun i hi=>by
   obtain⟨bb,off,cs,D,Pl,k,hA,hb,hlen,hcell,htr,hw⟩:=hall i hi;obtain⟨n,rfl,_,hwf⟩:=DataW.trod_int Tryz.underlying5 htr;have hn:0≤n∧n≤255:=by
    simpa [Lit.wf,IntKind.min,IntKind.max,IntKind.signed,IntKind.bits] using hwf
   refine⟨UInt8.ofNat n.toNat,trivial,bb,off,hA,hb,?_⟩;have h0:=hcell 0 (by decide);rw [Nat.mul_one,Nat.add_zero] at h0;rw [h0];have e:((UInt8.ofNat n.toNat).toNat:Int)=n:=by
    rw [UInt8.toNat_ofNat'];omega
   rw [e];rfl
  obtain⟨f,hf⟩:=choose_lt (α:=UInt8) each;have hcap:=hz _ hwt;rw [show Tryz.prog.bytesOf 5=1 by kernel_rfl] at hcap;refine⟨some a,(List.range len).map f,cap,by simp,fun j u hj=> ?_,by simpa using hl,by omega,fun h=>by cases h⟩;have hj':j < len:=by
   have:=(List.getElem?_eq_some_iff.1 hj).1;simpa [aL] using this
  obtain⟨_,bb,off,hA,hb,h0⟩:=hf j hj';have eu:u=.int .u8 ((f j).toNat:Int):=by
   have:(aL ((List.range len).map f))[j]?=some (.int .u8 ((f j).toNat:Int)):=by simp [aL,hj']
   exact Option.some.inj (hj.symm.trans this)
  rw [eu];exact⟨bb,off,by rw [hA],hb,h0⟩
theorem ns{base:Nat}{v:Value}{d:DataW H}{ps:List MemPlace}(hv:Value.okWide Tryz.prog w .any base 34 v)(h:DataW.Trod enc Tryz.prog w 0 (fun _=>true) true 34 v d ps)(hz:∀ n∈d.weights Tryz.prog 34,n≤140737488351232):
 ∃ A l c,v=.slice A l.length c∧zS w A l c:=by
 obtain⟨x,len,cap,rfl⟩:=okWide_slice Tryz.underlying34 hv;obtain⟨k,hk⟩:=h;exact ou hk hz
end
end Go.Proofs.YtadcjgopaadfjaaGreatDoor
