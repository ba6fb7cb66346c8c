/- A region that draws its order, whose operations only read and whose callees only lay new blocks: one walk of the text's order serves every order. -/
import Derived.Test.YtiglfbimijnpcaaGreatDoorQA
import Derived.Deep.QuietTactic
import Derived.BigQuiet
namespace Go.Proofs.YtiglfbimijnpcaaGreatDoor
open Go.RowKit Go.Proofs

/-- A world in which all that is there in w0 is as it was. -/
structure ExtW (w0 : World) where
  w : World
  sm : Sm No w0 w
instance (w0 : World) : Nonempty (ExtW w0) := ⟨⟨w0, Sm.refl No w0⟩⟩
theorem wp_region_ext_lit {P : Program} {id : Nat} {Q : Exit → Act → World → Prop} {a : Act} {w : World} {l : List Oper} (hm : P.follows .mixedOrders = true) (hB : Region.lexB .any l.toArray = true)
    (h : wpQuiet P l.toArray (fun w' => ∃ x : ExtW w, w' = x.w) (fun a' => ∀ w', (∃ x : ExtW w, w' = x.w) → Q .normal a' w') l a) : (Code.region id l.toArray true).wp P Q a w :=
  wp_region_quiet (C := fun w' => ∃ x : ExtW w, w' = x.w) hm hB ⟨⟨_, (Sm.refl No w).drew⟩, rfl⟩ (by simpa using h)
/-- A callee's contract, met in whichever world. -/
theorem Calls.ext {P : Program} {f : FuncId} {args : Array Value} {w : World} {x : ExtW w} {v : Value}
    (h : Calls P f args x.w fun e w' => e = .returned v ∧ Sm No x.w w') : Calls P f args x.w fun e w'' => e = .returned v ∧ ∃ y : ExtW w, w'' = y.w :=
  h.mono fun _ w'' ⟨he, hs⟩ => ⟨he, ⟨w'', x.sm.trans hs (fun _ _ h => h)⟩, rfl⟩
theorem Calls.ext_same {P : Program} {f : FuncId} {args : Array Value} {w : World} {x : ExtW w} {v : Value}
    (h : Calls P f args x.w fun e w' => e = .returned v ∧ w' = x.w) : Calls P f args x.w fun e w'' => e = .returned v ∧ ∃ y : ExtW w, w'' = y.w :=
  h.mono fun _ _ ⟨he, hs⟩ => ⟨he, x, hs⟩
theorem Calls.ext_eq {P : Program} {f : FuncId} {args : Array Value} {w : World} {x : ExtW w} {v : Value}
    (h : Calls P f args x.w fun e w' => e = .returned v ∧ x.w = w') : Calls P f args x.w fun e w'' => e = .returned v ∧ ∃ y : ExtW w, w'' = y.w :=
  h.mono fun _ _ ⟨he, hs⟩ => ⟨he, x, hs.symm⟩
theorem ExtW.cell {w : World} (x : ExtW w) {b o : Nat} {v : Value} (hb : b < w.heap.size) (hc : w.cell? ⟨b, o, none⟩ = some v) : x.w.cell? ⟨b, o, none⟩ = some v := x.sm.cell hb hc
end Go.Proofs.YtiglfbimijnpcaaGreatDoor

