/- Words and laws for slices: what can be read of one, cell by cell; a slice of the call's own grown by a whole other one. -/
import Derived.Test.YtgmgjkafdkgalaaOwnRows
namespace Go.Proofs.Ytgmgjkafdkgalaa
open Go.RowKit Go.Proofs

/-- A slice at A of which these cells can be read. -/
def RowC (w : World) (A : Option Addr) (cs : List Value) : Prop :=
  ∀ (j : Nat) (u : Value), cs[j]? = some u → ∃ bb off, A = some ⟨bb, off, none⟩ ∧ bb < w.heap.size ∧ w.cell? ⟨bb, off + j, none⟩ = some u

section
variable {S : Nat → Prop} {w w' : World} {A : Option Addr} {cs : List Value}
theorem RowC.sm (h : RowC w A cs) (hs : Sm S w w') (hA : ∀ a, A = some a → ¬ S a.block) : RowC w' A cs := by
  intro j u hj
  obtain ⟨bb, off, hA', hb, h1⟩ := h j u hj
  exact ⟨bb, off, hA', Nat.lt_of_lt_of_le hb hs.size, (World.cell?_of_block (w := w) (a := ⟨bb, _, none⟩) (hs.block bb hb (hA _ hA'))).trans h1⟩
theorem RowC.no (h : RowC w A cs) (hs : Sm No w w') : RowC w' A cs := h.sm hs (fun _ _ h => h)
theorem RowC.nil (w : World) (A : Option Addr) : RowC w A [] := fun j u h => by cases h
theorem RowC.news (h : RowC w A cs) {a : Addr} (hA : A = some a) : ∀ j u, cs[j]? = some u → w.cell? (a.add j) = some u := by
  intro j u hj
  obtain ⟨bb, off, hA', _, h1⟩ := h j u hj
  rw [hA] at hA'
  injection hA' with e
  subst e
  rw [Go.WideShapes.add_plain]
  exact h1
theorem own_rowC {B size n : Nat} {t : TypeId} {v : Value} {xs : List Value} (h : w.ownsRow B t size v n xs) : ∃ A c, v = .slice A n c ∧ RowC w A xs ∧ n ≤ c ∧ (A = none → c = 0) := by
  rcases own_row_form h with ⟨rfl, rfl, rfl⟩ | ⟨b, cap, rfl, _, _, hb, hc, hx, _⟩
  · exact ⟨none, 0, rfl, RowC.nil _ _, Nat.le_refl _, fun _ => rfl⟩
  · exact ⟨_, _, rfl, fun j u hj => ⟨b, 0, rfl, hb, by simpa using hx j u hj⟩, hc, fun h => by cases h⟩
theorem own_empty (w : World) (t : TypeId) (size : Nat) {B : Nat} (hB : B ≤ w.heap.size) : (w.alloc (.cells #[] t)).ownsRow B t size (.slice (some ⟨w.heap.size, 0, none⟩) 0 0) 0 [] := by
  refine ⟨by simp, Or.inr ⟨w.heap.size, 0, #[], rfl, hB, heap_alloc_new w _, Nat.le_refl _, ?_⟩⟩
  simp [maxLen]
end

section
variable {P : Program} {ops : Array Oper} {rest : List Oper} {o : Oper} {a : Act} {w : World} {Q : Exit → Act → World → Prop}

theorem wpList_push_row (hgd : o.guard = none) (s x : Operand) (st t : TypeId)
    (ho : o.op = .call { callee := .builtin .append, args := #[s, x], argTypes := #[st, st] }) (ht : P.underlying st = some (.slice t))
    (z : Value) (size bytes : Nat) (hi : (P.info? t).map (fun i => (i.zero, i.size, i.bytes)) = some (some z, size, bytes)) (hzs : z.cells.size = size) (hsz : 0 < size) (hby : bytes ≤ 1000)
    (B n : Nat) (v : Value) (xs : List Value) (hs : a.eval s = v) (hown : w.ownsRow B t size v n xs)
    (ad : Addr) (m c : Nat) (news : List Value) (hx : a.eval x = .slice (some ad) m c) (hl : news.length = m * size) (hrow : RowC w (some ad) news) (h1 : ∀ u ∈ news, u.oneCell' = true) (hn : n + m ≤ 1000001) (hB : B ≤ w.heap.size)
    (h : ∀ v' w', w'.ownsRow B t size v' (n + m) (xs ++ news) → Sm (fun b => v.ownBlock = some b) w w' → (v'.ownBlock = v.ownBlock ∨ v'.ownBlock = some w.heap.size) → (v' = .slice none 0 0 ↔ v = .slice none 0 0 ∧ m = 0) → wpList P ops Q rest (a.put o.dst v') w') : wpList P ops Q (o :: rest) a w := by
  obtain ⟨i0, hi0, hz0, hz1, hz2⟩ := info_parts hi
  refine wpList_append_own_at _ hgd s x st ho B t i0 z size bytes ht hi0 hz0 hz1 hz2 hzs hsz v n xs hs hown ad m c news hx hl (hrow.news rfl) h1 (by unfold maxLen; omega) ?_ hB ?_
  · have : (n + m) * bytes ≤ 1000001 * 1000 := Nat.mul_le_mul (by omega) hby
    omega
  · intro v' w' h2 h3 h4 h5
    exact h v' w' h2 ((Sm.refl _ w).grown h3 (fun k hk => Or.inl hk)) h5 h4
end
end Go.Proofs.Ytgmgjkafdkgalaa
