/- The wheel in memory. -/
import Derived.Test.YtgmgjkafdkgalaaWhF
namespace Go.Proofs.Ytgmgjkafdkgalaa
open Go.RowKit Go.Proofs Go.Maps

/-- A timer, its block, the place that it holds. -/
structure Tb where
  t : Tm
  b : Nat
  p : Nat × Nat
def idx (p : Nat × Nat) : Nat := p.1 * 64 + p.2
def tmCells (x : Tb) : Array Value := #[.int .i64 x.t.a, .int .i64 x.t.what, .int .i64 x.t.ord, .int .i64 x.p.1, .int .i64 x.p.2]
def whCells (now ord s tm : Nat) (mb : Nat → Nat) : Array Value := (Value.int .i64 now :: .int .i64 ord :: .pointer (some ⟨s, 0, none⟩) :: .map (some tm) :: (List.range 320).map (fun j => .map (some (mb j)))).toArray
theorem whCells_list {now ord s tm : Nat} {mb : Nat → Nat} {j : Nat} (h : j < 320) : (whCells now ord s tm mb)[4 + j]? = some (.map (some (mb j))) := by
  have e : 4 + j = j + 4 := by omega
  rw [e]
  unfold whCells
  simp [h]
def keysT (T : List Tb) : List (Hd × Value) := T.map fun x => (x.t.h, .pointer (some ⟨x.b, 0, none⟩))
def inSlot (T : List Tb) (j : Nat) : List (Hd × Value) := (T.filter fun x => decide (idx x.p = j)).map fun x => (x.t.h, .bool true)
def okP (p : Nat × Nat) : Prop := p.1 ≤ 4 ∧ p.2 < 64

/-- A Wheel: its timers are T, those of U lie in the slots that they say. -/
structure IsW (w : World) (Os : Nat → Prop) (r s tm : Nat) (mb : Nat → Nat) (now ord n : Nat) (sb : List Sl) (T U : List Tb) : Prop where
  bk : Bk w r 73 (whCells now ord s tm mb)
  slab : IsSlab w Os s sb n
  tms : MapL w tm (keysT T)
  ls : ∀ j, j < 320 → MapL w (mb j) (inSlot U j)
  tb : ∀ x ∈ T, Bk w x.b 77 (tmCells x)
  nd : (T.map (·.b)).Nodup
  inj : ∀ i j, i < 320 → j < 320 → mb i = mb j → i = j
  tmb : ∀ j, j < 320 → mb j ≠ tm
  so : ∀ b, Os b → b ≠ r ∧ b ≠ tm ∧ (∀ j, j < 320 → b ≠ mb j) ∧ ∀ x ∈ T, b ≠ x.b
/-- The blocks of a Wheel. -/
def blW (Os : Nat → Prop) (r tm : Nat) (mb : Nat → Nat) (T : List Tb) (b : Nat) : Prop := Os b ∨ b = r ∨ b = tm ∨ (∃ j, j < 320 ∧ b = mb j) ∨ ∃ x ∈ T, b = x.b

theorem bk_not_bk {w : World} {g g' : Nat} {t t' : TypeId} {cs cs' : Array Value} (h : Bk w g t cs) (h' : Bk w g' t' cs') (ht : t ≠ t') : g ≠ g' := by
  rintro rfl
  unfold Bk at h h'
  rw [h] at h'
  injection h' with h'
  injection h' with _ h'
  exact ht h'
theorem MapL.isMap {w : World} {b : Nat} {l : List (Hd × Value)} (h : MapL w b l) : ∃ es clock, w.heap[b]? = some (.map es clock) := by
  obtain ⟨_, _, E, ⟨es, clock, h1, _⟩, _⟩ := h
  exact ⟨es, clock, h1⟩
theorem MapL.not_bk {w : World} {b g : Nat} {t : TypeId} {cs : Array Value} {l : List (Hd × Value)} (h : MapL w b l) (hg : Bk w g t cs) : b ≠ g := by
  rintro rfl
  obtain ⟨es, clock, h1⟩ := h.isMap
  unfold Bk at hg
  rw [h1] at hg
  cases hg
section
variable {w w' : World} {Os : Nat → Prop} {r s tm now ord n : Nat} {mb : Nat → Nat} {sb : List Sl} {T U : List Tb}
theorem IsW.sm {S : Nat → Prop} (h : IsW w Os r s tm mb now ord n sb T U) (hs : Sm S w w') (hS : ∀ b, blW Os r tm mb T b → ¬ S b) : IsW w' Os r s tm mb now ord n sb T U where
  bk := h.bk.sm hs (hS r (Or.inr (Or.inl rfl)))
  slab := h.slab.sm hs (fun b hb => hS b (Or.inl hb))
  tms := h.tms.sm hs (hS tm (Or.inr (Or.inr (Or.inl rfl))))
  ls := fun j hj => (h.ls j hj).sm hs (hS _ (Or.inr (Or.inr (Or.inr (Or.inl ⟨j, hj, rfl⟩)))))
  tb := fun x hx => (h.tb x hx).sm hs (hS _ (Or.inr (Or.inr (Or.inr (Or.inr ⟨x, hx, rfl⟩)))))
  nd := h.nd
  inj := h.inj
  tmb := h.tmb
  so := h.so
theorem IsW.no (h : IsW w Os r s tm mb now ord n sb T U) (hs : Sm No w w') : IsW w' Os r s tm mb now ord n sb T U := h.sm hs (fun _ _ h => h)
theorem IsW.lt (h : IsW w Os r s tm mb now ord n sb T U) {b : Nat} (hb : blW Os r tm mb T b) : b < w.heap.size := by
  rcases hb with hb | rfl | rfl | ⟨j, hj, rfl⟩ | ⟨x, hx, rfl⟩
  · obtain ⟨_, _, _, _, _, h5⟩ := h.slab
    exact h5 b hb
  · exact h.bk.lt
  · exact h.tms.lt
  · exact (h.ls j hj).lt
  · exact (h.tb x hx).lt
theorem IsW.r_b (h : IsW w Os r s tm mb now ord n sb T U) {x : Tb} (hx : x ∈ T) : x.b ≠ r := bk_not_bk (h.tb x hx) h.bk (by decide)
theorem IsW.tm_r (h : IsW w Os r s tm mb now ord n sb T U) : tm ≠ r := h.tms.not_bk h.bk
theorem IsW.mb_r (h : IsW w Os r s tm mb now ord n sb T U) {j : Nat} (hj : j < 320) : mb j ≠ r := (h.ls j hj).not_bk h.bk
theorem IsW.tm_b (h : IsW w Os r s tm mb now ord n sb T U) {x : Tb} (hx : x ∈ T) : tm ≠ x.b := h.tms.not_bk (h.tb x hx)
theorem IsW.mb_b (h : IsW w Os r s tm mb now ord n sb T U) {j : Nat} (hj : j < 320) {x : Tb} (hx : x ∈ T) : mb j ≠ x.b := (h.ls j hj).not_bk (h.tb x hx)
theorem IsW.perm (h : IsW w Os r s tm mb now ord n sb T U) {T' U' : List Tb} (p : T.Perm T') (q : U.Perm U') : IsW w Os r s tm mb now ord n sb T' U' where
  bk := h.bk
  slab := h.slab
  tms := h.tms.perm (p.map _)
  ls := fun j hj => (h.ls j hj).perm ((q.filter _).map _)
  tb := fun x hx => h.tb x (p.mem_iff.2 hx)
  nd := (p.map _).nodup_iff.1 h.nd
  inj := h.inj
  tmb := h.tmb
  so := fun b hb => ⟨(h.so b hb).1, (h.so b hb).2.1, (h.so b hb).2.2.1, fun x hx => (h.so b hb).2.2.2 x (p.mem_iff.2 hx)⟩
theorem IsW.key (h : IsW w Os r s tm mb now ord n sb T U) {x : Tb} (hx : x ∈ T) : okH x.t.h := h.tms.ok (List.mem_map.2 ⟨(x.t.h, .pointer (some ⟨x.b, 0, none⟩)), List.mem_map.2 ⟨x, hx, rfl⟩, rfl⟩)
theorem IsW.eqh (h : IsW w Os r s tm mb now ord n sb T U) {x y : Tb} (hx : x ∈ T) (hy : y ∈ T) (e : x.t.h = y.t.h) : x = y := by
  have h1 := h.tms.1
  unfold keysT at h1
  rw [List.map_map] at h1
  unfold List.Nodup at h1
  rw [List.pairwise_map, List.pairwise_iff_getElem] at h1
  obtain ⟨i, hi, rfl⟩ := List.getElem_of_mem hx
  obtain ⟨j, hj, rfl⟩ := List.getElem_of_mem hy
  rcases Nat.lt_trichotomy i j with g | g | g
  · exact absurd e (h1 i j hi hj g)
  · subst g; rfl
  · exact absurd e.symm (h1 j i hj hi g)
theorem getV_keys (h : IsW w Os r s tm mb now ord n sb T U) {x : Tb} (hx : x ∈ T) (d : Value) : getV (keysT T) x.t.h d = .pointer (some ⟨x.b, 0, none⟩) := by
  have h1 : ∃ q, (keysT T).find? (fun p => decide (p.1 = x.t.h)) = some q := by
    cases hf : (keysT T).find? (fun p => decide (p.1 = x.t.h)) with
    | some q => exact ⟨q, rfl⟩
    | none =>
      rw [List.find?_eq_none] at hf
      exact absurd (by simp) (hf (x.t.h, .pointer (some ⟨x.b, 0, none⟩)) (List.mem_map.2 ⟨x, hx, rfl⟩))
  obtain ⟨q, hq⟩ := h1
  unfold getV
  rw [hq]
  have h2 := List.mem_of_find?_eq_some hq
  have h3 := List.find?_some hq
  obtain ⟨y, hy, rfl⟩ := List.mem_map.1 h2
  have := h.eqh hy hx (by simpa using h3)
  subst this
  rfl
theorem getV_none {h : Hd} (hn : ∀ x ∈ T, x.t.h ≠ h) (d : Value) : getV (keysT T) h d = d := by
  unfold getV
  have : (keysT T).find? (fun p => decide (p.1 = h)) = none := by
    rw [List.find?_eq_none]
    intro p hp
    obtain ⟨x, hx, rfl⟩ := List.mem_map.1 hp
    simpa using hn x hx
  rw [this]
end
end Go.Proofs.Ytgmgjkafdkgalaa
