/- Words for memory: a block known whole, a world that is as another one but for some blocks, and how both are kept. -/
import Derived.Below
import Derived.Laws.OwnMore
import Derived.Deep.Draws
import Derived.Laws.Rows
import Derived.Maps.Own
namespace Go.Proofs.Ytgmgjkafdkgalaa
open Go.RowKit Go.Proofs

theorem ret_b {a b : Bool} (h : a = b) : Ending.returned (.bool a) = Ending.returned (.bool b) := by rw [h]
theorem ret_i {k : IntKind} {a b : Int} (h : a = b) : Ending.returned (.int k a) = Ending.returned (.int k b) := by rw [h]

/-- Block g is a row of just these cells, none of them frozen. -/
def Bk (w : World) (g : Nat) (t : TypeId) (cs : Array Value) : Prop := w.heap[g]? = some (.cells cs t (0, 0))

/-- Of what was there in w, only the blocks of S may read otherwise in w'. -/
structure Sm (S : Nat → Prop) (w w' : World) : Prop where
  os : w'.os = w.os
  tape : w'.tape = w.tape
  output : w'.output = w.output
  size : w.heap.size ≤ w'.heap.size
  block : ∀ k, k < w.heap.size → ¬ S k → w'.heap[k]? = w.heap[k]?

/-- No block. -/
def No : Nat → Prop := fun _ => False

section
variable {S T : Nat → Prop} {w w' w1 w2 : World} {g : Nat} {t : TypeId} {cs : Array Value}

theorem Sm.refl (S : Nat → Prop) (w : World) : Sm S w w := ⟨rfl, rfl, rfl, Nat.le_refl _, fun _ _ _ => rfl⟩
theorem Sm.trans (h : Sm S w w1) (k : Sm T w1 w2) (hT : ∀ b, b < w.heap.size → T b → S b) : Sm S w w2 :=
  ⟨k.os.trans h.os, k.tape.trans h.tape, k.output.trans h.output, Nat.le_trans h.size k.size, fun b hb hS =>
    (k.block b (Nat.lt_of_lt_of_le hb h.size) (fun ht => hS (hT b hb ht))).trans (h.block b hb hS)⟩
theorem Sm.mono (h : Sm S w w1) (hT : ∀ b, b < w.heap.size → S b → T b) : Sm T w w1 :=
  ⟨h.os, h.tape, h.output, h.size, fun b hb hn => h.block b hb (fun hs => hn (hT b hb hs))⟩
theorem Sm.drew (h : Sm S w w1) : Sm S w w1.drew := ⟨h.os, h.tape, h.output, h.size, h.block⟩
theorem Sm.drewN (h : Sm S w w1) (n : Nat) : Sm S w (w1.drewN n) := ⟨h.os, h.tape, h.output, h.size, h.block⟩
theorem Sm.alloc (h : Sm S w w1) (o : Obj) : Sm S w (w1.alloc o) :=
  ⟨h.os, h.tape, h.output, by have := h.size; simp; omega, fun b hb hS => (Below.heap_alloc w1 o b (Nat.lt_of_lt_of_le hb h.size)).trans (h.block b hb hS)⟩
theorem Sm.set (h : Sm S w w1) {p : Addr} (hp : S p.block ∨ w.heap.size ≤ p.block) (u : Value) : Sm S w (w1.setCell p u) :=
  ⟨h.os, h.tape, h.output, by simpa using h.size, fun b hb hS => (Below.heap_setCell w1 p u b (by
    rintro rfl
    rcases hp with hp | hp
    · exact hS hp
    · omega)).trans (h.block b hb hS)⟩
theorem Sm.set1 {g : Nat} (h : Sm (fun x => x = g) w w1) (i : Nat) (u : Value) : Sm (fun x => x = g) w (w1.setCell ⟨g, i, none⟩ u) := h.set (Or.inl rfl) u
theorem Sm.setS {g : Nat} (h : Sm S w w1) (hg : S g) (i : Nat) (u : Value) : Sm S w (w1.setCell ⟨g, i, none⟩ u) := h.set (Or.inl hg) u
theorem Sm.setN {g : Nat} (h : Sm S w w1) (hg : w.heap.size ≤ g) (i : Nat) (u : Value) : Sm S w (w1.setCell ⟨g, i, none⟩ u) := h.set (Or.inr hg) u
theorem Sm.grown (h : Sm S w w1) {row : Option Nat} (hg : w1.grownBy w2 row) (hr : ∀ k, row = some k → S k ∨ w.heap.size ≤ k) : Sm S w w2 :=
  ⟨hg.os.trans h.os, hg.tape.trans h.tape, hg.output.trans h.output, Nat.le_trans h.size hg.size, fun b hb hS =>
    (hg.block b (Nat.lt_of_lt_of_le hb h.size) (fun e => by
      rcases hr b e.symm with h1 | h1
      · exact hS h1
      · omega)).trans (h.block b hb hS)⟩
theorem Sm.below (h : Sm S w w1) (hS : ∀ b, b < w.heap.size → ¬ S b) : Below w.heap.size w w1 :=
  ⟨h.os, h.tape, h.output, h.size, fun b hb => h.block b hb (hS b hb)⟩
theorem Sm.bel (h : Sm No w w1) : Below w.heap.size w w1 := h.below fun _ _ hn => hn
theorem Sm.any (h : Sm No w w1) (S : Nat → Prop) : Sm S w w1 := h.mono fun _ _ hn => hn.elim
theorem Sm.cell (h : Sm No w w1) {b o : Nat} (hb : b < w.heap.size) {v : Value} (hc : w.cell? ⟨b, o, none⟩ = some v) : w1.cell? ⟨b, o, none⟩ = some v :=
  (World.cell?_of_block (w := w) (a := ⟨b, o, none⟩) (h.block b hb (fun h => h))).trans hc
theorem Sm.of_below (h : Below w.heap.size w w1) (S : Nat → Prop) : Sm S w w1 := ⟨h.os, h.tape, h.output, h.size, fun b hb _ => h.block b hb⟩

theorem Bk.lt (h : Bk w g t cs) : g < w.heap.size := by
  rcases Nat.lt_or_ge g w.heap.size with hlt | hge
  · exact hlt
  · unfold Bk at h; rw [Array.getElem?_eq_none hge] at h; cases h
theorem Bk.at (h : Bk w g t cs) (i : Nat) {v : Value} (hv : cs[i]? = some v) : w.cell? ⟨g, i, none⟩ = some v :=
  (cell_of_row w g i cs t (0, 0) h).trans hv
theorem Bk.fz (h : Bk w g t cs) (i : Nat) : w.frozen? ⟨g, i, none⟩ = false := by
  unfold Bk at h
  simp [World.frozen?, h]
theorem Bk.new (w : World) (t : TypeId) (cs : Array Value) : Bk (w.alloc (.cells cs t)) w.heap.size t cs := heap_alloc_new w _
theorem Bk.newAt (w : World) (t : TypeId) (cs : Array Value) {g : Nat} (hg : g = w.heap.size) : Bk (w.alloc (.cells cs t)) g t cs := hg ▸ heap_alloc_new w _
theorem Bk.drew (h : Bk w g t cs) : Bk w.drew g t cs := h
theorem Bk.drewN (h : Bk w g t cs) (n : Nat) : Bk (w.drewN n) g t cs := h
theorem Bk.alloc (h : Bk w g t cs) (o : Obj) : Bk (w.alloc o) g t cs := (Below.heap_alloc w o g h.lt).trans h
theorem Bk.set (h : Bk w g t cs) (i : Nat) (u : Value) : Bk (w.setCell ⟨g, i, none⟩ u) g t (cs.setIfInBounds i u) := by
  unfold Bk at h ⊢
  simp [World.setCell, Array.getElem?_modify, h]
theorem Bk.far (h : Bk w g t cs) {p : Addr} (hp : g ≠ p.block) (u : Value) : Bk (w.setCell p u) g t cs := (Below.heap_setCell w p u g hp).trans h
theorem Bk.sm (h : Bk w g t cs) (hs : Sm S w w') (hg : ¬ S g) : Bk w' g t cs := (hs.block g h.lt hg).trans h
theorem Bk.below {B : Nat} (h : Bk w g t cs) (hb : Below B w w') (hg : g < B) : Bk w' g t cs := (hb.block g hg).trans h
theorem Bk.grown {row : Option Nat} (h : Bk w g t cs) (hb : w.grownBy w' row) (hg : some g ≠ row) : Bk w' g t cs := (hb.block g h.lt hg).trans h
theorem Bk.eq (h : Bk w g t cs) {cs' : Array Value} (e : cs = cs') : Bk w g t cs' := e ▸ h

theorem own_sm {H : Type} {P : Program} {k : TypeId} {R : Value → Option (DataW H × List MemPlace)} {b n : Nat} {D : DataW H} (h : w.ownsMap P k R b n D) (hs : Sm S w w') (hb : ¬ S b) : w'.ownsMap P k R b n D := by
  have hlt := h.lt
  obtain ⟨es, clock, he, F, hn, hD⟩ := h
  exact ⟨es, clock, (hs.block b hlt hb).trans he, F, hn, hD⟩
end
end Go.Proofs.Ytgmgjkafdkgalaa
