/- The law of waits: its body. -/
import Derived.Test.YtkgafpmblmobeaaGateI
namespace Go.Proofs.Ytkgafpmblmobeaa
open Go.RowKit Go.Proofs Go.Maps

theorem plain_lit (w : World) : Calls Try.prog 9 #[] w fun e w' => e = .returned (.agg #[.int .i64 3, .int .i64 2, .int .i64 1, .int .i64 0, .int .i64 1, .int .i64 1, .int .i64 1, .int .i64 1, .int .i64 1, .int .i64 0, .int .i64 0, .int .i64 3, .int .i64 10, .bool false, .bool false, .slice none 0 0]) ∧ Sm No w w' :=
  plain_any w

def waitsC (base top : Int) : Cfg := ⟨3, 2, 1, 0, 1, 1, 1, 1, 1, 0, 0, base, top, false, false, none, 0, 0⟩
theorem waitsC_ok (base top : Int) (h0 : 0 ≤ base) (h1 : base ≤ 1048576) (h2 : 0 ≤ top) (h3 : top ≤ 1073741824) : (waitsC base top).ok = true := by
  simp [Cfg.ok, waitsC, allW]; omega

/-- The state at the head of the inner loop: so many failures, and what the law reckons. -/
structure Row (base top : Int) (i : Nat) (D : Int) (k : Nat) (s : GS) : Prop where
  fails : s.fails = i
  d0 : 0 ≤ D
  d1 : D ≤ 1099511627776
  first : i = 0 → D = base
  later : 0 < i → ∃ P, 0 ≤ P ∧ s.delay = min top P ∧ D = min (2 * P) 1099511627776
  e0 : 0 ≤ s.delay
  e1 : s.delay ≤ 1073741824
  all : s.all = k
  go : s.stopped = false

theorem Row.failD {base top D : Int} {i k : Nat} {s : GS} (h : Row base top i D k s) (h2 : 0 ≤ top) (h3 : top ≤ 1073741824) : failD (waitsC base top) s = min top D := by
  unfold Go.Proofs.Ytkgafpmblmobeaa.failD waitsC
  dsimp only
  rcases Nat.eq_zero_or_pos i with e | e
  · rw [if_pos (by rw [h.fails, e]; rfl), h.first e]
  · obtain ⟨P, hP, hd, hD⟩ := h.later e
    rw [if_neg (by rw [h.fails]; omega), hd, hD]
    omega
theorem Row.fit {base top D : Int} {i k : Nat} {s : GS} (h : Row base top i D k s) (hi : i ≤ 60) (hk : k ≤ 2) (h0 : 0 ≤ base) (h1 : base ≤ 1048576) (h2 : 0 ≤ top) (h3 : top ≤ 1073741824) : Fit (waitsC base top) s :=
  ⟨by rw [h.all]; omega, by rw [h.all]; omega, by rw [h.fails]; omega, by rw [h.fails]; omega, h.e0, h.e1, h0, by show base ≤ _; omega, h2, h3⟩
theorem Row.next {base top D now : Int} {i k : Nat} {s : GS} (h : Row base top i D k s) (h2 : 0 ≤ top) (h3 : top ≤ 1073741824) :
    Row base top (i + 1) (min (2 * D) 1099511627776) k (failS (waitsC base top) now s) := by
  have e := h.failD h2 h3
  refine ⟨by simp [failS, h.fails], by have := h.d0; omega, by omega, by omega, fun _ => ⟨D, h.d0, by simp [failS, e], rfl⟩, ?_, ?_, h.all, h.go⟩
  · simp only [failS]; rw [e]; have := h.d0; omega
  · simp only [failS]; rw [e]; omega
theorem Row.till {base top D now : Int} {i k : Nat} {s : GS} (h : Row base top i D k s) (h2 : 0 ≤ top) (h3 : top ≤ 1073741824) (n0 : 0 ≤ now) (n1 : now ≤ 549755813888) :
    (failS (waitsC base top) now s).till = now + min D top := by
  simp only [failS]; rw [h.failD h2 h3]; omega

set_option maxHeartbeats 1000000 in
theorem waits_out (a0 a1 a2 a3 : Int) (h : a0 < 0 ∨ 1048576 < a0 ∨ a1 < 0 ∨ 1073741824 < a1 ∨ a2 < 1 ∨ 60 < a2 ∨ a3 < 0 ∨ 549755813888 < a3) (w : World) :
    Calls Try.prog 3 #[.int .i64 a0, .int .i64 a1, .int .i64 a2, .int .i64 a3] w fun e w' => e = .returned (.bool true) ∧ Sm No w w' := by
  by_cases h1 : a0 < 0
  case' neg =>
    by_cases h2 : 1048576 < a0
    case' neg =>
      by_cases h3 : a1 < 0
      case' neg =>
        by_cases h4 : 1073741824 < a1
        case' neg =>
          by_cases h5 : a2 < 1
          case' neg =>
            by_cases h6 : 60 < a2
            case' neg =>
              by_cases h7 : a3 < 0
              case' neg =>
                have h8 : 549755813888 < a3 := by omega
  all_goals
    clear h
    go_enter Try.func3, Try.ntmps3
    go_wp2_with fail
    refine (known_any _).mono ?_
    rintro e w' ⟨rfl, hs⟩
    go_wp2_with fail
    go_ret
    exact ⟨rfl, hs⟩
end Go.Proofs.Ytkgafpmblmobeaa
