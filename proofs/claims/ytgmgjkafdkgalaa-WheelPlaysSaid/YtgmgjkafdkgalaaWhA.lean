/- The wheel in plain words: where a time lies, and over which slots the hands go. -/
import Derived.WalkKit
namespace Go.Proofs.Ytgmgjkafdkgalaa

/-- 64 to the power of a level. -/
def p64 : Nat → Nat
  | 0 => 1
  | 1 => 64
  | 2 => 4096
  | 3 => 262144
  | _ => 16777216
/-- Where the time a lies, now being n. -/
def placeL (n a : Nat) : Nat × Nat :=
  if a ≤ n then (0, n % 64)
  else if a / 64 = n / 64 then (0, a % 64)
  else if a / 4096 = n / 4096 then (1, a / 64 % 64)
  else if a / 262144 = n / 262144 then (2, a / 4096 % 64)
  else if a / 16777216 = n / 16777216 then (3, a / 262144 % 64)
  else (4, 0)
/-- Do the hands, going from m to n, pass slot s of level l? -/
def overL (m n l s : Nat) : Bool :=
  if l = 4 then decide (s = 0) && decide (m / 16777216 ≠ n / 16777216)
  else decide (s < 64) && decide ((s + 64 - m / p64 l % 64) % 64 ≤ n / p64 l - m / p64 l)

theorem placeL_cases (n a : Nat) :
    (a ≤ n ∧ placeL n a = (0, n % 64)) ∨ (n < a ∧ a / 64 = n / 64 ∧ placeL n a = (0, a % 64)) ∨
    (n < a ∧ a / 64 ≠ n / 64 ∧ a / 4096 = n / 4096 ∧ placeL n a = (1, a / 64 % 64)) ∨
    (n < a ∧ a / 4096 ≠ n / 4096 ∧ a / 262144 = n / 262144 ∧ placeL n a = (2, a / 4096 % 64)) ∨
    (n < a ∧ a / 262144 ≠ n / 262144 ∧ a / 16777216 = n / 16777216 ∧ placeL n a = (3, a / 262144 % 64)) ∨
    (n < a ∧ a / 16777216 ≠ n / 16777216 ∧ placeL n a = (4, 0)) := by
  unfold placeL
  by_cases h0 : a ≤ n
  · exact Or.inl ⟨h0, by rw [if_pos h0]⟩
  have hn : n < a := by omega
  rw [if_neg h0]
  by_cases h1 : a / 64 = n / 64
  · exact Or.inr (Or.inl ⟨hn, h1, by rw [if_pos h1]⟩)
  rw [if_neg h1]
  by_cases h2 : a / 4096 = n / 4096
  · exact Or.inr (Or.inr (Or.inl ⟨hn, h1, h2, by rw [if_pos h2]⟩))
  rw [if_neg h2]
  by_cases h3 : a / 262144 = n / 262144
  · exact Or.inr (Or.inr (Or.inr (Or.inl ⟨hn, h2, h3, by rw [if_pos h3]⟩)))
  rw [if_neg h3]
  by_cases h4 : a / 16777216 = n / 16777216
  · exact Or.inr (Or.inr (Or.inr (Or.inr (Or.inl ⟨hn, h3, h4, by rw [if_pos h4]⟩))))
  rw [if_neg h4]
  exact Or.inr (Or.inr (Or.inr (Or.inr (Or.inr ⟨hn, h4, rfl⟩))))
theorem placeL_lt (n a : Nat) : (placeL n a).1 ≤ 4 ∧ (placeL n a).2 < 64 := by
  rcases placeL_cases n a with ⟨_, h⟩ | ⟨_, _, h⟩ | ⟨_, _, _, h⟩ | ⟨_, _, _, h⟩ | ⟨_, _, _, h⟩ | ⟨_, _, h⟩ <;> rw [h] <;> dsimp only <;> omega
theorem placeL_far (n a : Nat) (h : (placeL n a).1 = 4) : (placeL n a).2 = 0 := by
  rcases placeL_cases n a with ⟨_, e⟩ | ⟨_, _, e⟩ | ⟨_, _, _, e⟩ | ⟨_, _, _, e⟩ | ⟨_, _, _, e⟩ | ⟨_, _, e⟩ <;> rw [e] at h ⊢ <;> simp at h ⊢
/-- What the hands do not pass lies where it lay, and is not due. -/
theorem place_kept {m n a : Nat} (hmn : m ≤ n) (h : overL m n (placeL m a).1 (placeL m a).2 = false) : n < a ∧ placeL n a = placeL m a := by
  rcases placeL_cases m a with ⟨h1, e⟩ | ⟨h1, h2, e⟩ | ⟨h1, h2, h3, e⟩ | ⟨h1, h2, h3, e⟩ | ⟨h1, h2, h3, e⟩ | ⟨h1, h2, e⟩ <;> rw [e] at h ⊢ <;> simp [overL, p64] at h
  · omega
  · have hn : n < a := by omega
    refine ⟨hn, ?_⟩
    rw [placeL, if_neg (by omega), if_pos (by omega)]
  · have hn : n < a := by omega
    refine ⟨hn, ?_⟩
    rw [placeL, if_neg (by omega), if_neg (by omega), if_pos (by omega)]
  · have hn : n < a := by omega
    refine ⟨hn, ?_⟩
    rw [placeL, if_neg (by omega), if_neg (by omega), if_neg (by omega), if_pos (by omega)]
  · have hn : n < a := by omega
    refine ⟨hn, ?_⟩
    rw [placeL, if_neg (by omega), if_neg (by omega), if_neg (by omega), if_neg (by omega), if_pos (by omega)]
  · have hn : n < a := by omega
    refine ⟨hn, ?_⟩
    rw [placeL, if_neg (by omega), if_neg (by omega), if_neg (by omega), if_neg (by omega), if_neg (by omega)]
end Go.Proofs.Ytgmgjkafdkgalaa
