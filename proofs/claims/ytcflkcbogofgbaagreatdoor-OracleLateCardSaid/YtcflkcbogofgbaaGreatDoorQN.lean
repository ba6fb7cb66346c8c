import Derived.Test.YtcflkcbogofgbaaGreatDoorQB
import Derived.Test.YtcflkcbogofgbaaGreatDoorQO
import Derived.Deep.QuietTactic
import Derived.BigQuiet
import Derived.WalkSpells
set_option maxHeartbeats 1000000
set_option maxRecDepth 100000
namespace Go.Proofs.YtcflkcbogofgbaaGreatDoor
open Go.RowKit Go.WideShapes Go.ChangeShapes Go.Proofs Go.Deep
def Gq(w:World)(A:Option Addr)(l:List aJ)(c:Nat):Prop:=
 dM w A l∧l.length≤c∧c≤4398046511104∧(∀ x∈l,x.1.size≤140737488351232∧x.2.size≤140737488351232)∧(A=none→c=0)
theorem dM.no{w w':World}{A:Option Addr}{l:List aJ}(h:dM w A l)(hs:Sm No w w'):dM w' A l:=h.sm hs (fun _ _ h=>h)
theorem Gq.no{w w':World}{A:Option Addr}{l:List aJ}{c:Nat}(h:Gq w A l c)(hs:Sm No w w'):Gq w' A l c:=⟨h.1.no hs,h.2⟩
section
variable {H:Type} {enc:TypeId × Value→H} {w:World}
end
structure DW where
 kind:Int
 name:ByteArray
 other:ByteArray
 la:Option Addr
 lc:Nat
 l:List aJ
instance:Inhabited DW:=⟨⟨0,⟨#[]⟩,⟨#[]⟩,none,0,[]⟩⟩
def GO(w:World)(A:Option Addr)(l:List DW):Prop:=
 ∀ k,(h:k < l.length)→(∃ bb off,A=some ⟨bb,off,none⟩∧bb < w.heap.size∧w.cell? ⟨bb,off+k * 4,none⟩=some (.int .i64 l[k].kind)∧w.cell? ⟨bb,off+k * 4+1,none⟩=some (.string l[k].name)∧
   w.cell? ⟨bb,off+k * 4+2,none⟩=some (.string l[k].other)∧w.cell? ⟨bb,off+k * 4+3,none⟩=some (.slice l[k].la l[k].l.length l[k].lc))∧dM w l[k].la l[k].l
theorem GO.no{w w':World}{A:Option Addr}{l:List DW}(h:GO w A l)(hs:Sm No w w'):GO w' A l:=by
 intro k hk;obtain⟨⟨bb,off,hA,hb,h0,h1,h2,h3⟩,hf⟩:=h k hk;exact⟨⟨bb,off,hA,Nat.lt_of_lt_of_le hb hs.size,hs.cell hb h0,hs.cell hb h1,hs.cell hb h2,hs.cell hb h3⟩,hf.no hs⟩
section
variable {H:Type} {enc:TypeId × Value→H} {w:World}
end
end Go.Proofs.YtcflkcbogofgbaaGreatDoor
namespace Go.Proofs.YtcflkcbogofgbaaGreatDoor
open Go.RowKit Go.Proofs
theorem fE(l:List aJ):∀ u∈ao l,u.oneCell'=true:=by
 intro u hu;obtain⟨x,_,hx⟩:=List.mem_flatMap.1 hu;simp only [List.mem_cons,List.not_mem_nil,or_false] at hx;rcases hx with rfl|rfl<;>rfl
theorem dM.rowC{w:World}{A:Option Addr}{l:List aJ}(h:dM w A l):ar w A (ao l):=by
 intro j u hj;have hlt:j < (ao l).length:=(List.getElem?_eq_some_iff.1 hj).1;rw [ew] at hlt;obtain⟨bb,off,hA,hb,h0,h1⟩:=h (j / 2) (by omega);obtain⟨g0,g1⟩:=fg l (j / 2) (by omega);refine⟨bb,off,hA,hb,?_⟩;by_cases e:j % 2=0
 ·have e2:j / 2 * 2=j:=by omega
  rw [e2] at g0 h0;rw [g0] at hj;injection hj with hj;rw [h0,hj]
 ·have e2:j / 2 * 2+1=j:=by omega
  rw [e2] at g1;rw [Nat.add_assoc,e2] at h1;rw [g1] at hj;injection hj with hj;rw [h1,hj]
theorem ar.frow{w:World}{A:Option Addr}{l:List aJ}(h:ar w A (ao l)):dM w A l:=by
 intro k hk;obtain⟨g0,g1⟩:=fg l k hk;obtain⟨bb,off,hA,hb,h0⟩:=h _ _ g0;obtain⟨bb',off',hA',_,h1⟩:=h _ _ g1;rw [hA] at hA';injection hA' with e;injection e with e1 e2;subst e1 e2;exact⟨bb,off,hA,hb,h0,h1⟩
theorem aD.row0{w:World}{B g:Nat}{t:TypeId}{v:Value}{l:List aJ}(h:aD w B g t v l):∃ A c,v=.slice A l.length c∧dM w A l∧(A=none→l.length=0∧c=0):=by
 obtain⟨A,c,hv,hR,hc,h0⟩:=ak h.2.1;exact⟨A,c,hv,hR.frow,fun e=>⟨by have:=h0 e;omega,h0 e⟩⟩
def uJ(w:World)(n:Nat)(i:Value)(wr:World):Prop:=∃ k:Nat,k≤n∧i=.int .i64 k∧Sm No w wr
def rK(w:World)(B:Nat)(v:Value)(l:List aJ):Prop:=w.ownsRow B 129 2 v l.length (ao l)
def qk(w:World)(l:List aJ)(e:Ending)(w':World):Prop:=∃ v,e=.returned v∧rK w' w.heap.size v l∧Sm No w w'
theorem AN(w:World)(A:Option Addr)(c:Nat)(l:List aJ)(hA:dM w A l)(hl:l.length≤1000000)(h0:A=none→l.length=0∧c=0):
 Calls Tryz.prog 154 #[.slice A l.length c] w (qk w l):=by
 have hA0:=hA;have hsl:=fun (w:World) (a:Option Addr) (n c:Nat)=>Lib.run_eql_slice_nil (P:=Tryz.prog) w 60 129 a n c 0 0 Tryz.underlying60;clear hA
 cases A with
 |none=>
  obtain⟨e,rfl⟩:=h0 rfl;obtain rfl:=List.eq_nil_of_length_eq_zero e;go_in;go_wp2_with fail;go_ret;exact⟨_,rfl,World.ownsRow_nil _ _ _ 2,Sm.refl _ _⟩
 |some a=>
  clear h0;have HR:=ns (hA0.rowC);clear hA0;go_in;go_wp2_with (refine fu rfl _ _ 60 129 rfl Tryz.underlying60 _ 2 32 eS rfl (by decide) (by decide) w.heap.size 0 _ [] rfl (lI w _ _ (Nat.le_refl _)) a l.length c (ao l) rfl (ew l) (HR.out.no ((Sm.refl No w).alloc _)) (fE l) (by omega) (by simp) ?_;intro v' w1 hown hs1 _ _);go_ret;refine⟨_,rfl,by simpa [rK] using hown,((Sm.refl No w).alloc (.cells #[] 129)).trans hs1 (fun b hb e=> ?_)⟩;have e':some w.heap.size=some b:=e;injection e' with e';omega
theorem F0(w:World)(B g:Nat)(v:Value)(l:List aJ)(hF:aD w B g 195 v l)(hl:l.length≤1000000):
 Calls Tryz.prog 110 #[.pointer (some ⟨g,0,none⟩)] w (qk w l):=by
 obtain⟨A,c,rfl,hR,h0⟩:=hF.row0;have cg:=hF.1.at 0 (v:=.slice A l.length c) rfl;have HC:=ns (AN w A c l hR hl h0);clear hF hR h0;go_in;go_wp2_with fail;refine HC.out.mono ?_;rintro e w1 ⟨v,rfl,hO,hs⟩;have HX:=ns (BT hO hs);clear hO hs;go_wp2_with fail;go_ret;exact⟨v,rfl,HX.out.1,HX.out.2⟩
end Go.Proofs.YtcflkcbogofgbaaGreatDoor
