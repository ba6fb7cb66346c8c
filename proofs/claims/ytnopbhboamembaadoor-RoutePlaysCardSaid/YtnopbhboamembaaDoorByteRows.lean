/- Words and laws for a row of bytes that the call itself made: from a text, to a text, made of zeros. -/
import Derived.Test.YtnopbhboamembaaDoorLaws
import Derived.Test.YtnopbhboamembaaDoorProg
import Derived.OwnWalk
import Derived.Laws.IdiomStrings
namespace Go.Proofs.YtnopbhboamembaaDoor
open Go.RowKit Go.Proofs

/-- Block g begins with these bytes, none of them frozen. -/
def By (w : World) (g : Nat) (l : List UInt8) : Prop :=
  g < w.heap.size ∧ ∀ j c, l[j]? = some c → w.cell? ⟨g, j, none⟩ = some (.int .u8 c.toNat) ∧ w.frozen? ⟨g, j, none⟩ = false

section
variable {S : Nat → Prop} {w w' : World} {g : Nat} {l : List UInt8}
theorem By.sm (h : By w g l) (hs : Sm S w w') (hg : ¬ S g) : By w' g l := by
  refine ⟨Nat.lt_of_lt_of_le h.1 hs.size, fun j c hj => ?_⟩
  obtain ⟨h1, h2⟩ := h.2 j c hj
  have hb := hs.block g h.1 hg
  exact ⟨(World.cell?_of_block (w := w) (a := ⟨g, j, none⟩) hb).trans h1, by
    have : w'.frozen? ⟨g, j, none⟩ = w.frozen? ⟨g, j, none⟩ := by unfold World.frozen?; rw [hb]
    rw [this]; exact h2⟩
theorem By.drew (h : By w g l) : By w.drew g l := h
theorem By.drewN (h : By w g l) (n : Nat) : By (w.drewN n) g l := h
theorem By.alloc (h : By w g l) (o : Obj) : By (w.alloc o) g l := h.sm ((Sm.refl No w).alloc o) (fun h => h)
theorem By.at (h : By w g l) {j : Nat} {c : UInt8} (hj : l[j]? = some c) : w.cell? ⟨g, j, none⟩ = some (.int .u8 c.toNat) := (h.2 j c hj).1
theorem By.fz (h : By w g l) {j : Nat} (hj : j < l.length) : w.frozen? ⟨g, j, none⟩ = false := (h.2 j l[j] (by simp [hj])).2

theorem By.set (h : By w g l) (i : Nat) (hi : i < l.length) (c : UInt8) : By (w.setCell ⟨g, i, none⟩ (.int .u8 c.toNat)) g (l.set i c) := by
  refine ⟨by simpa using h.1, fun j d hj => ?_⟩
  by_cases e : i = j
  · subst e
    rw [List.getElem?_set_self hi] at hj
    obtain rfl : c = d := by simpa using hj
    obtain ⟨h1, h2⟩ := h.2 i l[i] (by simp [hi])
    refine ⟨?_, ?_⟩
    · exact World.cell?_setCell_same w _ _ h1
    · rw [World.frozen?_setCell]; exact h2
  · rw [List.getElem?_set_ne e] at hj
    obtain ⟨h1, h2⟩ := h.2 j d hj
    refine ⟨?_, ?_⟩
    · rw [World.cell?_setCell_other w _ _ _ (by simp)]; exact h1
    · rw [World.frozen?_setCell]; exact h2
end

section
variable {P : Program} {ops : Array Oper} {rest : List Oper} {o : Oper} {a : Act} {w : World} {Q : Exit → Act → World → Prop}

theorem wpList_bytes_of (hgd : o.guard = none) (src dst e : TypeId) (x : Operand) (ho : o.op = .convert src dst x) (s : ByteArray) (hx : a.eval x = .string s)
    (hs : P.underlying src = some .string) (hd : P.underlying dst = some (.slice e)) (he : P.underlying e = some (.int .u8))
    (h : ∀ (cap : Nat) w', By w' w.heap.size s.data.toList → s.size ≤ cap → Sm No w w' → w'.heap.size = w.heap.size + 1 → wpList P ops Q rest (a.put o.dst (.slice (some ⟨w.heap.size, 0, none⟩) s.size cap)) w') : wpList P ops Q (o :: rest) a w := by
  refine wpList_plain hgd fun _ hK => ?_
  unfold Oper.wp execOp
  simp only [ho, hx, Sem.run_bind, Sem.run_pure, run_bytes_of_string w src dst e s hs hd he, Result.andThen_ok]
  refine hK _ _ (h _ _ ⟨by simp, fun j c hj => ⟨?_, ?_⟩⟩ ?_ ?_ (by simp))
  · have hj' : j < s.data.size := by
      have := List.getElem?_eq_some_iff.mp hj
      simpa using this.1
    refine (World.cell?_alloc_mark w.drew _ e _ j).trans ?_
    rw [bytesRow_at s _ j hj']
    have : s.data[j] = c := by
      have := (List.getElem?_eq_some_iff.mp hj).2
      simpa using this
    rw [this]
  · have hj' : j < s.data.size := by
      have := List.getElem?_eq_some_iff.mp hj
      simpa using this.1
    refine (World.frozen?_alloc_mark w.drew _ e _ _ j).trans ?_
    have : ¬ (bytesRow s (grownCap w s.size 0 e)).size ≤ j := by
      have hsz : s.size = s.data.size := rfl
      simp only [bytesRow, Array.size_append, Array.size_map, Array.size_replicate]; omega
    simp [this]
  · exact grownCap_ge w s.size 0 e
  · exact ((Sm.refl No w).drew).alloc _

theorem wpList_string_of (hgd : o.guard = none) (src dst e : TypeId) (x : Operand) (ho : o.op = .convert src dst x) (g n cap : Nat) (l : List UInt8) (hx : a.eval x = .slice (some ⟨g, 0, none⟩) n cap)
    (hs : P.underlying src = some (.slice e)) (he : P.underlying e = some (.int .u8)) (hd : P.underlying dst = some .string) (hb : By w g l) (hn : l.length = n)
    (h : wpList P ops Q rest (a.put o.dst (.string ⟨l.toArray⟩)) w) : wpList P ops Q (o :: rest) a w := by
  subst hn
  refine wpList_plain hgd fun _ hK => ?_
  unfold Oper.wp execOp
  simp only [ho, hx, Sem.run_bind, Sem.run_pure, run_convert_bytes_back w src dst e ⟨g, 0, none⟩ cap l hs he hd (fun j hj => by
    have e : (⟨g, 0, none⟩ : Addr).add j = ⟨g, j, none⟩ := by unfold Addr.add; split <;> simp_all
    rw [e]; exact hb.at (by simp [hj])), Result.andThen_ok]
  exact hK _ _ h

theorem wpList_make_bytes (hgd : o.guard = none) (t e : TypeId) (x y : Operand) (ho : o.op = .makeSlice t x y) (n : Nat) (hx : a.eval x = .int .i64 n) (hy : a.eval y = .int .i64 n)
    (ht : P.underlying t = some (.slice e)) (hi : (P.info? e).map (fun i => (i.zero, i.size, i.bytes)) = some (some (.int .u8 0), 1, 1)) (hn : n ≤ 1000000)
    (h : ∀ w', By w' w.heap.size (List.replicate n 0) → Sm No w w' → w'.heap.size = w.heap.size + 1 → wpList P ops Q rest (a.put o.dst (.slice (some ⟨w.heap.size, 0, none⟩) n n)) w') : wpList P ops Q (o :: rest) a w := by
  obtain ⟨i0, h0, h1, h2, h3⟩ := info_parts hi
  have hr := run_make (P := P) w t e i0 (.int .u8 0) ht h0 h1 .i64 .i64 n n (by omega) (Int.le_refl _) (by rw [h3]; omega) (by omega)
  simp only [Int.toNat_natCast, h2, Nat.mul_one] at hr
  refine wpList_plain hgd fun _ hK => ?_
  unfold Oper.wp execOp
  simp only [ho, hx, hy, Sem.run_bind, Sem.run_pure, hr, Result.andThen_ok]
  have hb := Bk.new w e (madeCells #[.int .u8 0] n)
  refine hK _ _ (h _ ⟨by simp, fun j c hj => ?_⟩ ((Sm.refl No w).alloc _) (by simp))
  have hj' : j < n := by
    have := (List.getElem?_eq_some_iff.mp hj).1
    simpa using this
  obtain rfl : 0 = c := by simpa [hj'] using hj
  exact ⟨hb.at j (by simp [madeCells, hj', Nat.mod_one]), hb.fz j⟩
end
end Go.Proofs.YtnopbhboamembaaDoor
