/- Two Wheels of the call's own, neither of which the other one's calls turn. -/
import Derived.Test.YtgmgjkafdkgalaaWhX
namespace Go.Proofs.Ytgmgjkafdkgalaa
open Go.RowKit Go.Proofs Go.Maps

def Two (w w1 : World) (K : Nat → Prop) (r1 : Nat) (st1 : St) (r2 : Nat) (st2 : St) : Prop :=
  ∃ O1 O2 : Nat → Prop, IsWheel w1 O1 r1 st1 ∧ IsWheel w1 O2 r2 st2 ∧ Sm No w w1 ∧ (∀ b, O1 b → w.heap.size ≤ b) ∧ (∀ b, O2 b → w.heap.size ≤ b) ∧ (∀ b, O1 b → ¬ O2 b) ∧ ∀ b, K b → b < w1.heap.size ∧ ¬ O1 b ∧ ¬ O2 b
theorem IsWheel.below {w : World} {O : Nat → Prop} {r : Nat} {st : St} (h : IsWheel w O r st) {b : Nat} (hb : O b) : b < w.heap.size := by
  obtain ⟨_, _, _, _, _, _, _, _, _, _, h⟩ := h
  exact h b hb
section
variable {w w1 w2 : World} {K : Nat → Prop} {r1 r2 : Nat} {st1 st2 : St}
theorem Two.swap (h : Two w w1 K r1 st1 r2 st2) : Two w w1 K r2 st2 r1 st1 := by
  obtain ⟨O1, O2, h1, h2, h3, h4, h5, h6, h7⟩ := h
  exact ⟨O2, O1, h2, h1, h3, h5, h4, fun b e f => h6 b f e, fun b hb => ⟨(h7 b hb).1, (h7 b hb).2.2, (h7 b hb).2.1⟩⟩
theorem Two.sm (h : Two w w1 K r1 st1 r2 st2) : Sm No w w1 := by
  obtain ⟨_, _, _, _, h3, _⟩ := h
  exact h3
theorem Two.one (h : Two w w1 K r1 st1 r2 st2) : Own6 w w1 K r1 st1 := by
  obtain ⟨O1, O2, h1, h2, h3, h4, h5, h6, h7⟩ := h
  exact ⟨O1, h1, h3, h4, fun b hb => ⟨(h7 b hb).1, (h7 b hb).2.1⟩⟩
theorem Two.re (h : Two w w1 K r1 st1 r2 st2) {S K2 : Nat → Prop} (hs : Sm S w1 w2) (hS : ∀ b, S b → K b) (hf : ∀ b, S b → w.heap.size ≤ b) (hK : ∀ b, K2 b → (K b ∨ w1.heap.size ≤ b) ∧ b < w2.heap.size) : Two w w2 K2 r1 st1 r2 st2 := by
  obtain ⟨O1, O2, h1, h2, h3, h4, h5, h6, h7⟩ := h
  refine ⟨O1, O2, h1.sm hs (fun b hb e => (h7 b (hS b e)).2.1 hb), h2.sm hs (fun b hb e => (h7 b (hS b e)).2.2 hb), ((h3.any _).trans hs (fun b _ e => e)).mono (fun b hb e => by have := hf b e; omega), h4, h5, h6, fun b hb => ?_⟩
  refine ⟨(hK b hb).2, fun e => ?_, fun e => ?_⟩
  · rcases (hK b hb).1 with hb | hb
    · exact (h7 b hb).2.1 e
    · have := h1.below e; omega
  · rcases (hK b hb).1 with hb | hb
    · exact (h7 b hb).2.2 e
    · have := h2.below e; omega
theorem Two.no (h : Two w w1 K r1 st1 r2 st2) (hs : Sm No w1 w2) : Two w w2 K r1 st1 r2 st2 :=
  h.re hs (fun _ h => h.elim) (fun _ h => h.elim) (fun b hb => ⟨Or.inl hb, by
    obtain ⟨_, _, _, _, _, _, _, _, h7⟩ := h
    exact Nat.lt_of_lt_of_le (h7 b hb).1 hs.size⟩)
theorem two_new (now : Nat) (hnow : now ≤ 1099511627776) (h : Own6 w w1 No r1 st1) :
    Calls Try.prog 11 #[.int .i64 now] w1 fun e w2 => ∃ r, e = .returned (.tuple #[.pointer (some ⟨r, 0, none⟩), .int .i64 0]) ∧ Two w w2 No r1 st1 r (St.new now) := by
  obtain ⟨O1, h1, h2, h3, h4⟩ := h
  refine (wnew_any w1 now hnow).mono fun e w2 ⟨r, O, he, g1, g2, g3⟩ => ⟨r, he, O1, O, h1.no g2, g1, h2.trans g2 (fun _ _ h => h), h3, fun b hb => Nat.le_trans h2.size (g3 b hb), fun b e f => ?_, fun b hb => hb.elim⟩
  have := h1.below e
  have := g3 b f
  omega
theorem two_add (a what : Int) (h : Two w w1 K r1 st1 r2 st2) (ho : st1.ord ≤ 4000) :
    Calls Try.prog 12 #[.pointer (some ⟨r1, 0, none⟩), .int .i64 a, .int .i64 what] w1 fun e w2 => e = .returned (.tuple #[hv (addW st1 a what).1, .int .i64 (addW st1 a what).2.1]) ∧ Two w w2 K r1 (addW st1 a what).2.2 r2 st2 ∧ Sm (NotK K) w1 w2 := by
  obtain ⟨O1, O2, h1, h2, h3, h4, h5, h6, h7⟩ := h
  refine (add_any w1 O1 r1 st1 a what h1 ho).mono fun e w2 ⟨he, O', g1, g2, g3⟩ => ⟨he, ⟨O', O2, g1, h2.sm g2 (fun b hb e => h6 b e hb), ((h3.any _).trans g2 (fun b _ e => e)).mono (fun b hb e => by have := h4 b e; omega), fun b hb => ?_, h5, fun b e f => ?_, fun b hb => ⟨Nat.lt_of_lt_of_le (h7 b hb).1 g2.size, fun e => ?_, (h7 b hb).2.2⟩⟩, g2.mono (fun b _ e hk => (h7 b hk).2.1 e)⟩
  · rcases g3 b hb with e | e
    · exact h4 b e
    · exact Nat.le_trans h3.size e
  · rcases g3 b e with e | e
    · exact h6 b e f
    · have := h2.below f; omega
  · rcases g3 b e with e | e
    · exact (h7 b hb).2.1 e
    · have := (h7 b hb).1; omega
theorem two_adv (n : Int) (h : Two w w1 K r1 st1 r2 st2) (ho : st1.ord ≤ 4000) :
    Calls Try.prog 13 #[.pointer (some ⟨r1, 0, none⟩), .int .i64 n] w1 fun e w2 => ∃ v, e = .returned v ∧ OwnI w2 w1.heap.size v (advW st1 n).1 ∧ Two w w2 (fun b => K b ∨ v.ownBlock = some b) r1 (advW st1 n).2 r2 st2 ∧ Sm (NotK K) w1 w2 := by
  obtain ⟨O1, O2, h1, h2, h3, h4, h5, h6, h7⟩ := h
  refine (advance_any w1 O1 r1 st1 n h1 ho).mono fun e w2 ⟨v, he, g1, g2, g3⟩ => ⟨v, he, g1, ⟨O1, O2, g2, h2.sm g3 (fun b hb e => h6 b e hb), ((h3.any _).trans g3 (fun b _ e => e)).mono (fun b hb e => by have := h4 b e; omega), h4, h5, h6, fun b hb => ?_⟩, g3.mono (fun b _ e hk => (h7 b hk).2.1 e)⟩
  rcases hb with hb | hb
  · exact ⟨Nat.lt_of_lt_of_le (h7 b hb).1 g3.size, (h7 b hb).2⟩
  · exact ⟨own_row_lt g1 hb, fun e => by have := h1.below e; have := row_base g1 hb; omega, fun e => by have := h2.below e; have := row_base g1 hb; omega⟩
end
end Go.Proofs.Ytgmgjkafdkgalaa
