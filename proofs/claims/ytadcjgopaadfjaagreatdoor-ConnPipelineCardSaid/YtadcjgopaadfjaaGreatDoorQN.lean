import Derived.Test.YtadcjgopaadfjaaGreatDoorQB
import Derived.Test.YtadcjgopaadfjaaGreatDoorQO
import Derived.Deep.QuietTactic
import Derived.BigQuiet
import Derived.WalkSpells
set_option maxHeartbeats 1000000
set_option maxRecDepth 100000
namespace Go.Proofs.YtadcjgopaadfjaaGreatDoor
open Go.RowKit Go.WideShapes Go.ChangeShapes Go.Proofs Go.Deep
def EX(w:World)(A:Option Addr)(l:List aM)(c:Nat):Prop:=
 ec w A l∧l.length≤c∧c≤4398046511104∧(∀ x∈l,x.1.size≤140737488351232∧x.2.size≤140737488351232)∧(A=none→c=0)
theorem ec.no{w w':World}{A:Option Addr}{l:List aM}(h:ec w A l)(hs:Sm No w w'):ec w' A l:=h.sm hs (fun _ _ h=>h)
theorem EX.no{w w':World}{A:Option Addr}{l:List aM}{c:Nat}(h:EX w A l c)(hs:Sm No w w'):EX w' A l c:=⟨h.1.no hs,h.2⟩
section
variable {H:Type} {enc:TypeId × Value→H} {w:World}
end
structure AP where
 kind:Int
 name:ByteArray
 other:ByteArray
 la:Option Addr
 lc:Nat
 l:List aM
instance:Inhabited AP:=⟨⟨0,⟨#[]⟩,⟨#[]⟩,none,0,[]⟩⟩
def E5(w:World)(A:Option Addr)(l:List AP):Prop:=
 ∀ k,(h:k < l.length)→(∃ bb off,A=some ⟨bb,off,none⟩∧bb < w.heap.size∧w.cell? ⟨bb,off+k * 4,none⟩=some (.int .i64 l[k].kind)∧w.cell? ⟨bb,off+k * 4+1,none⟩=some (.string l[k].name)∧
   w.cell? ⟨bb,off+k * 4+2,none⟩=some (.string l[k].other)∧w.cell? ⟨bb,off+k * 4+3,none⟩=some (.slice l[k].la l[k].l.length l[k].lc))∧ec w l[k].la l[k].l
theorem E5.no{w w':World}{A:Option Addr}{l:List AP}(h:E5 w A l)(hs:Sm No w w'):E5 w' A l:=by
 intro k hk;obtain⟨⟨bb,off,hA,hb,h0,h1,h2,h3⟩,hf⟩:=h k hk;exact⟨⟨bb,off,hA,Nat.lt_of_lt_of_le hb hs.size,hs.cell hb h0,hs.cell hb h1,hs.cell hb h2,hs.cell hb h3⟩,hf.no hs⟩
section
variable {H:Type} {enc:TypeId × Value→H} {w:World}
end
end Go.Proofs.YtadcjgopaadfjaaGreatDoor
namespace Go.Proofs.YtadcjgopaadfjaaGreatDoor
open Go.RowKit Go.Proofs
theorem ib(l:List aM):∀ u∈av l,u.oneCell'=true:=by
 intro u hu;obtain⟨x,_,hx⟩:=List.mem_flatMap.1 hu;simp only [List.mem_cons,List.not_mem_nil,or_false] at hx;rcases hx with rfl|rfl<;>rfl
theorem ec.rowC{w:World}{A:Option Addr}{l:List aM}(h:ec w A l):ax w A (av l):=by
 intro j u hj;have hlt:j < (av l).length:=(List.getElem?_eq_some_iff.1 hj).1;rw [fh] at hlt;obtain⟨bb,off,hA,hb,h0,h1⟩:=h (j / 2) (by omega);obtain⟨g0,g1⟩:=eT l (j / 2) (by omega);refine⟨bb,off,hA,hb,?_⟩;by_cases e:j % 2=0
 ·have e2:j / 2 * 2=j:=by omega
  rw [e2] at g0 h0;rw [g0] at hj;injection hj with hj;rw [h0,hj]
 ·have e2:j / 2 * 2+1=j:=by omega
  rw [e2] at g1;rw [Nat.add_assoc,e2] at h1;rw [g1] at hj;injection hj with hj;rw [h1,hj]
theorem ax.frow{w:World}{A:Option Addr}{l:List aM}(h:ax w A (av l)):ec w A l:=by
 intro k hk;obtain⟨g0,g1⟩:=eT l k hk;obtain⟨bb,off,hA,hb,h0⟩:=h _ _ g0;obtain⟨bb',off',hA',_,h1⟩:=h _ _ g1;rw [hA] at hA';injection hA' with e;injection e with e1 e2;subst e1 e2;exact⟨bb,off,hA,hb,h0,h1⟩
theorem aA.row0{w:World}{B g:Nat}{t:TypeId}{v:Value}{l:List aM}(h:aA w B g t v l):∃ A c,v=.slice A l.length c∧ec w A l∧(A=none→l.length=0∧c=0):=by
 obtain⟨A,c,hv,hR,hc,h0⟩:=au h.2.1;exact⟨A,c,hv,hR.frow,fun e=>⟨by have:=h0 e;omega,h0 e⟩⟩
def Ba(w:World)(n:Nat)(i:Value)(wr:World):Prop:=∃ k:Nat,k≤n∧i=.int .i64 k∧Sm No w wr
def qM(w:World)(B:Nat)(v:Value)(l:List aM):Prop:=w.ownsRow B 143 2 v l.length (av l)
def oR(w:World)(l:List aM)(e:Ending)(w':World):Prop:=∃ v,e=.returned v∧qM w' w.heap.size v l∧Sm No w w'
theorem yF(w:World)(A:Option Addr)(c:Nat)(l:List aM)(hA:ec w A l)(hl:l.length≤1000000)(h0:A=none→l.length=0∧c=0):
 Calls Tryz.prog 157 #[.slice A l.length c] w (oR w l):=by
 have hA0:=hA;have hsl:=fun (w:World) (a:Option Addr) (n c:Nat)=>Lib.run_eql_slice_nil (P:=Tryz.prog) w 91 143 a n c 0 0 Tryz.underlying91;clear hA
 cases A with
 |none=>
  obtain⟨e,rfl⟩:=h0 rfl;obtain rfl:=List.eq_nil_of_length_eq_zero e;go_in;go_wp2_with fail;go_ret;exact⟨_,rfl,World.ownsRow_nil _ _ _ 2,Sm.refl _ _⟩
 |some a=>
  clear h0;have HR:=aa (hA0.rowC);clear hA0;go_in;go_wp2_with (refine eZ rfl _ _ 91 143 rfl Tryz.underlying91 _ 2 32 jJ rfl (by decide) (by decide) w.heap.size 0 _ [] rfl (gg w _ _ (Nat.le_refl _)) a l.length c (av l) rfl (fh l) (HR.out.no ((Sm.refl No w).alloc _)) (ib l) (by omega) (by simp) ?_;intro v' w1 hown hs1 _ _);go_ret;refine⟨_,rfl,by simpa [qM] using hown,((Sm.refl No w).alloc (.cells #[] 143)).trans hs1 (fun b hb e=> ?_)⟩;have e':some w.heap.size=some b:=e;injection e' with e';omega
theorem DS(w:World)(B g:Nat)(v:Value)(l:List aM)(hF:aA w B g 214 v l)(hl:l.length≤1000000):
 Calls Tryz.prog 127 #[.pointer (some ⟨g,0,none⟩)] w (oR w l):=by
 obtain⟨A,c,rfl,hR,h0⟩:=hF.row0;have cg:=hF.1.at 0 (v:=.slice A l.length c) rfl;have HC:=aa (yF w A c l hR hl h0);clear hF hR h0;go_in;go_wp2_with fail;refine HC.out.mono ?_;rintro e w1 ⟨v,rfl,hO,hs⟩;have HX:=aa (ab hO hs);clear hO hs;go_wp2_with fail;go_ret;exact⟨v,rfl,HX.out.1,HX.out.2⟩
end Go.Proofs.YtadcjgopaadfjaaGreatDoor
