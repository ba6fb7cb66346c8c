/- What numbers say: Phrase, NoBody; Dec. -/
import Derived.Test.YtiglfbimijnpcaaGreatDoorQStatA
import Derived.Test.YtiglfbimijnpcaaGreatDoorShelf
import Derived.Lib.ItoaMem
import Derived.Lib.SmallJoins
namespace Go.Proofs.YtiglfbimijnpcaaGreatDoor
open Go.RowKit Go.Proofs

/-- The library's variables that the walks read: one of bytealg, one table of strconv. -/
def G1 (w : World) : Prop := G0 w ∧ Lib.TabIs Tryz.prog w "internal/strconv.uint64pow10" .u64 Lib.pow10Tab
theorem G1.no {w w' : World} (h : G1 w) (hs : Sm No w w') : G1 w' := ⟨h.1.no hs, Joins.tab_stays (B := w.heap.size) (by kernel_rfl : Tryz.prog.globalNamed "internal/strconv.uint64pow10" = some 3) h.2 hs.bel (Nat.le_refl _)⟩
theorem Sm.grow {w : World} (k : Nat) (os : Array Obj) : Sm No w (Sort.grow (w.drewN k) os) := by
  refine ⟨rfl, rfl, rfl, ?_, fun b hb _ => ?_⟩
  · simp [Sort.grow]
  · show (w.heap ++ os)[b]? = _
    rw [Array.getElem?_append_left hb]
set_option maxRecDepth 100000 in
theorem dec_any (w : World) (hg : G1 w) (n : Int) (h0 : 0 ≤ n) (h1 : n ≤ 9223372036854775807) :
    Calls Tryz.prog 78 #[.int .i64 n] w fun e w' => e = .returned (strV (Lib.itoa n)) ∧ Sm No w w' := by
  have HT := Lib.hid (Tryz.strconv_Itoa n (by omega) h1 w hg.2)
  clear hg
  have e : max 0 n = n := by omega
  go_enter Tryz.func78, Tryz.ntmps78
  go_wp2_with fail
  refine HT.out.mono ?_
  rintro e w1 ⟨rfl, k, os, hw⟩
  have hs : Sm No w w1 := hw ▸ Sm.grow k os
  have HS := Lib.hid hs
  clear hs hw
  go_wp2_with fail
  go_ret
  exact ⟨rfl, HS.out⟩
--PHRASE
/-- What a status says. -/
def phraseT (c : Int) : List UInt8 :=
  if c = 100 then [67, 111, 110, 116, 105, 110, 117, 101]
  else if c = 200 then [79, 75]
  else if c = 204 then [78, 111, 32, 67, 111, 110, 116, 101, 110, 116]
  else if c = 304 then [78, 111, 116, 32, 77, 111, 100, 105, 102, 105, 101, 100]
  else if c = 400 then [66, 97, 100, 32, 82, 101, 113, 117, 101, 115, 116]
  else if c = 404 then [78, 111, 116, 32, 70, 111, 117, 110, 100]
  else if c = 405 then [77, 101, 116, 104, 111, 100, 32, 78, 111, 116, 32, 65, 108, 108, 111, 119, 101, 100]
  else if c = 408 then [82, 101, 113, 117, 101, 115, 116, 32, 84, 105, 109, 101, 111, 117, 116]
  else if c = 413 then [67, 111, 110, 116, 101, 110, 116, 32, 84, 111, 111, 32, 76, 97, 114, 103, 101]
  else if c = 414 then [85, 82, 73, 32, 84, 111, 111, 32, 76, 111, 110, 103]
  else if c = 417 then [69, 120, 112, 101, 99, 116, 97, 116, 105, 111, 110, 32, 70, 97, 105, 108, 101, 100]
  else if c = 431 then [82, 101, 113, 117, 101, 115, 116, 32, 72, 101, 97, 100, 101, 114, 32, 70, 105, 101, 108, 100, 115, 32, 84, 111, 111, 32, 76, 97, 114, 103, 101]
  else if c = 501 then [78, 111, 116, 32, 73, 109, 112, 108, 101, 109, 101, 110, 116, 101, 100]
  else if c = 503 then [83, 101, 114, 118, 105, 99, 101, 32, 85, 110, 97, 118, 97, 105, 108, 97, 98, 108, 101]
  else if c = 505 then [72, 84, 84, 80, 32, 86, 101, 114, 115, 105, 111, 110, 32, 78, 111, 116, 32, 83, 117, 112, 112, 111, 114, 116, 101, 100]
  else [83, 116, 97, 116, 117, 115]
theorem phrase_100 : phraseT 100 = [67, 111, 110, 116, 105, 110, 117, 101] := by decide
theorem phrase_200 : phraseT 200 = [79, 75] := by decide
theorem phrase_204 : phraseT 204 = [78, 111, 32, 67, 111, 110, 116, 101, 110, 116] := by decide
theorem phrase_304 : phraseT 304 = [78, 111, 116, 32, 77, 111, 100, 105, 102, 105, 101, 100] := by decide
theorem phrase_400 : phraseT 400 = [66, 97, 100, 32, 82, 101, 113, 117, 101, 115, 116] := by decide
theorem phrase_404 : phraseT 404 = [78, 111, 116, 32, 70, 111, 117, 110, 100] := by decide
theorem phrase_405 : phraseT 405 = [77, 101, 116, 104, 111, 100, 32, 78, 111, 116, 32, 65, 108, 108, 111, 119, 101, 100] := by decide
theorem phrase_408 : phraseT 408 = [82, 101, 113, 117, 101, 115, 116, 32, 84, 105, 109, 101, 111, 117, 116] := by decide
theorem phrase_413 : phraseT 413 = [67, 111, 110, 116, 101, 110, 116, 32, 84, 111, 111, 32, 76, 97, 114, 103, 101] := by decide
theorem phrase_414 : phraseT 414 = [85, 82, 73, 32, 84, 111, 111, 32, 76, 111, 110, 103] := by decide
theorem phrase_417 : phraseT 417 = [69, 120, 112, 101, 99, 116, 97, 116, 105, 111, 110, 32, 70, 97, 105, 108, 101, 100] := by decide
theorem phrase_431 : phraseT 431 = [82, 101, 113, 117, 101, 115, 116, 32, 72, 101, 97, 100, 101, 114, 32, 70, 105, 101, 108, 100, 115, 32, 84, 111, 111, 32, 76, 97, 114, 103, 101] := by decide
theorem phrase_501 : phraseT 501 = [78, 111, 116, 32, 73, 109, 112, 108, 101, 109, 101, 110, 116, 101, 100] := by decide
theorem phrase_503 : phraseT 503 = [83, 101, 114, 118, 105, 99, 101, 32, 85, 110, 97, 118, 97, 105, 108, 97, 98, 108, 101] := by decide
theorem phrase_505 : phraseT 505 = [72, 84, 84, 80, 32, 86, 101, 114, 115, 105, 111, 110, 32, 78, 111, 116, 32, 83, 117, 112, 112, 111, 114, 116, 101, 100] := by decide
theorem phrase_else {c : Int} (h100 : c ≠ 100) (h200 : c ≠ 200) (h204 : c ≠ 204) (h304 : c ≠ 304) (h400 : c ≠ 400) (h404 : c ≠ 404) (h405 : c ≠ 405) (h408 : c ≠ 408) (h413 : c ≠ 413) (h414 : c ≠ 414) (h417 : c ≠ 417) (h431 : c ≠ 431) (h501 : c ≠ 501) (h503 : c ≠ 503) (h505 : c ≠ 505) : phraseT c = [83, 116, 97, 116, 117, 115] := by
  unfold phraseT
  rw [if_neg h100, if_neg h200, if_neg h204, if_neg h304, if_neg h400, if_neg h404, if_neg h405, if_neg h408, if_neg h413, if_neg h414, if_neg h417, if_neg h431, if_neg h501, if_neg h503, if_neg h505]
theorem phraseT_len (c : Int) : (phraseT c).length ≤ 31 := by
  have h : ∀ (p : Prop) [Decidable p] (a b : List UInt8), a.length ≤ 31 → b.length ≤ 31 → (if p then a else b).length ≤ 31 := fun p _ a b ha hb => by split <;> assumption
  unfold phraseT
  iterate 15 refine h _ _ _ (by decide) ?_
  decide
set_option maxRecDepth 100000 in
theorem phrase_any (w : World) (c : Int) : Calls Tryz.prog 79 #[.int .i64 c] w fun e w' => e = .returned (strV (phraseT c)) ∧ w' = w := by
  by_cases h100 : c = 100
  · subst h100
    rw [phrase_100]
    go_enter Tryz.func79, Tryz.ntmps79
    go_wp2_with fail
    go_ret
    exact ⟨rfl, rfl⟩
  by_cases h200 : c = 200
  · subst h200
    rw [phrase_200]
    go_enter Tryz.func79, Tryz.ntmps79
    go_wp2_with fail
    go_ret
    exact ⟨rfl, rfl⟩
  by_cases h204 : c = 204
  · subst h204
    rw [phrase_204]
    go_enter Tryz.func79, Tryz.ntmps79
    go_wp2_with fail
    go_ret
    exact ⟨rfl, rfl⟩
  by_cases h304 : c = 304
  · subst h304
    rw [phrase_304]
    go_enter Tryz.func79, Tryz.ntmps79
    go_wp2_with fail
    go_ret
    exact ⟨rfl, rfl⟩
  by_cases h400 : c = 400
  · subst h400
    rw [phrase_400]
    go_enter Tryz.func79, Tryz.ntmps79
    go_wp2_with fail
    go_ret
    exact ⟨rfl, rfl⟩
  by_cases h404 : c = 404
  · subst h404
    rw [phrase_404]
    go_enter Tryz.func79, Tryz.ntmps79
    go_wp2_with fail
    go_ret
    exact ⟨rfl, rfl⟩
  by_cases h405 : c = 405
  · subst h405
    rw [phrase_405]
    go_enter Tryz.func79, Tryz.ntmps79
    go_wp2_with fail
    go_ret
    exact ⟨rfl, rfl⟩
  by_cases h408 : c = 408
  · subst h408
    rw [phrase_408]
    go_enter Tryz.func79, Tryz.ntmps79
    go_wp2_with fail
    go_ret
    exact ⟨rfl, rfl⟩
  by_cases h413 : c = 413
  · subst h413
    rw [phrase_413]
    go_enter Tryz.func79, Tryz.ntmps79
    go_wp2_with fail
    go_ret
    exact ⟨rfl, rfl⟩
  by_cases h414 : c = 414
  · subst h414
    rw [phrase_414]
    go_enter Tryz.func79, Tryz.ntmps79
    go_wp2_with fail
    go_ret
    exact ⟨rfl, rfl⟩
  by_cases h417 : c = 417
  · subst h417
    rw [phrase_417]
    go_enter Tryz.func79, Tryz.ntmps79
    go_wp2_with fail
    go_ret
    exact ⟨rfl, rfl⟩
  by_cases h431 : c = 431
  · subst h431
    rw [phrase_431]
    go_enter Tryz.func79, Tryz.ntmps79
    go_wp2_with fail
    go_ret
    exact ⟨rfl, rfl⟩
  by_cases h501 : c = 501
  · subst h501
    rw [phrase_501]
    go_enter Tryz.func79, Tryz.ntmps79
    go_wp2_with fail
    go_ret
    exact ⟨rfl, rfl⟩
  by_cases h503 : c = 503
  · subst h503
    rw [phrase_503]
    go_enter Tryz.func79, Tryz.ntmps79
    go_wp2_with fail
    go_ret
    exact ⟨rfl, rfl⟩
  by_cases h505 : c = 505
  · subst h505
    rw [phrase_505]
    go_enter Tryz.func79, Tryz.ntmps79
    go_wp2_with fail
    go_ret
    exact ⟨rfl, rfl⟩
  rw [phrase_else h100 h200 h204 h304 h400 h404 h405 h408 h413 h414 h417 h431 h501 h503 h505]
  have e100 : (c == 100) = false := by simp [h100]
  have e200 : (c == 200) = false := by simp [h200]
  have e204 : (c == 204) = false := by simp [h204]
  have e304 : (c == 304) = false := by simp [h304]
  have e400 : (c == 400) = false := by simp [h400]
  have e404 : (c == 404) = false := by simp [h404]
  have e405 : (c == 405) = false := by simp [h405]
  have e408 : (c == 408) = false := by simp [h408]
  have e413 : (c == 413) = false := by simp [h413]
  have e414 : (c == 414) = false := by simp [h414]
  have e417 : (c == 417) = false := by simp [h417]
  have e431 : (c == 431) = false := by simp [h431]
  have e501 : (c == 501) = false := by simp [h501]
  have e503 : (c == 503) = false := by simp [h503]
  have e505 : (c == 505) = false := by simp [h505]
  clear h100 h200 h204 h304 h400 h404 h405 h408 h413 h414 h417 h431 h501 h503 h505
  go_enter Tryz.func79, Tryz.ntmps79
  go_wp2_with fail
  go_ret
  exact ⟨rfl, rfl⟩
set_option maxRecDepth 100000 in
theorem rPhrase_any (w : World) (c : Int) : Calls Tryz.prog 35 #[.int .i64 c] w fun e w' => e = .returned (strV (phraseT c)) ∧ w' = w := by
  by_cases h100 : c = 100
  · subst h100
    rw [phrase_100]
    go_enter Tryz.func35, Tryz.ntmps35
    go_wp2_with fail
    go_ret
    exact ⟨rfl, rfl⟩
  by_cases h200 : c = 200
  · subst h200
    rw [phrase_200]
    go_enter Tryz.func35, Tryz.ntmps35
    go_wp2_with fail
    go_ret
    exact ⟨rfl, rfl⟩
  by_cases h204 : c = 204
  · subst h204
    rw [phrase_204]
    go_enter Tryz.func35, Tryz.ntmps35
    go_wp2_with fail
    go_ret
    exact ⟨rfl, rfl⟩
  by_cases h304 : c = 304
  · subst h304
    rw [phrase_304]
    go_enter Tryz.func35, Tryz.ntmps35
    go_wp2_with fail
    go_ret
    exact ⟨rfl, rfl⟩
  by_cases h400 : c = 400
  · subst h400
    rw [phrase_400]
    go_enter Tryz.func35, Tryz.ntmps35
    go_wp2_with fail
    go_ret
    exact ⟨rfl, rfl⟩
  by_cases h404 : c = 404
  · subst h404
    rw [phrase_404]
    go_enter Tryz.func35, Tryz.ntmps35
    go_wp2_with fail
    go_ret
    exact ⟨rfl, rfl⟩
  by_cases h405 : c = 405
  · subst h405
    rw [phrase_405]
    go_enter Tryz.func35, Tryz.ntmps35
    go_wp2_with fail
    go_ret
    exact ⟨rfl, rfl⟩
  by_cases h408 : c = 408
  · subst h408
    rw [phrase_408]
    go_enter Tryz.func35, Tryz.ntmps35
    go_wp2_with fail
    go_ret
    exact ⟨rfl, rfl⟩
  by_cases h413 : c = 413
  · subst h413
    rw [phrase_413]
    go_enter Tryz.func35, Tryz.ntmps35
    go_wp2_with fail
    go_ret
    exact ⟨rfl, rfl⟩
  by_cases h414 : c = 414
  · subst h414
    rw [phrase_414]
    go_enter Tryz.func35, Tryz.ntmps35
    go_wp2_with fail
    go_ret
    exact ⟨rfl, rfl⟩
  by_cases h417 : c = 417
  · subst h417
    rw [phrase_417]
    go_enter Tryz.func35, Tryz.ntmps35
    go_wp2_with fail
    go_ret
    exact ⟨rfl, rfl⟩
  by_cases h431 : c = 431
  · subst h431
    rw [phrase_431]
    go_enter Tryz.func35, Tryz.ntmps35
    go_wp2_with fail
    go_ret
    exact ⟨rfl, rfl⟩
  by_cases h501 : c = 501
  · subst h501
    rw [phrase_501]
    go_enter Tryz.func35, Tryz.ntmps35
    go_wp2_with fail
    go_ret
    exact ⟨rfl, rfl⟩
  by_cases h503 : c = 503
  · subst h503
    rw [phrase_503]
    go_enter Tryz.func35, Tryz.ntmps35
    go_wp2_with fail
    go_ret
    exact ⟨rfl, rfl⟩
  by_cases h505 : c = 505
  · subst h505
    rw [phrase_505]
    go_enter Tryz.func35, Tryz.ntmps35
    go_wp2_with fail
    go_ret
    exact ⟨rfl, rfl⟩
  rw [phrase_else h100 h200 h204 h304 h400 h404 h405 h408 h413 h414 h417 h431 h501 h503 h505]
  have e100 : (c == 100) = false := by simp [h100]
  have e200 : (c == 200) = false := by simp [h200]
  have e204 : (c == 204) = false := by simp [h204]
  have e304 : (c == 304) = false := by simp [h304]
  have e400 : (c == 400) = false := by simp [h400]
  have e404 : (c == 404) = false := by simp [h404]
  have e405 : (c == 405) = false := by simp [h405]
  have e408 : (c == 408) = false := by simp [h408]
  have e413 : (c == 413) = false := by simp [h413]
  have e414 : (c == 414) = false := by simp [h414]
  have e417 : (c == 417) = false := by simp [h417]
  have e431 : (c == 431) = false := by simp [h431]
  have e501 : (c == 501) = false := by simp [h501]
  have e503 : (c == 503) = false := by simp [h503]
  have e505 : (c == 505) = false := by simp [h505]
  clear h100 h200 h204 h304 h400 h404 h405 h408 h413 h414 h417 h431 h501 h503 h505
  go_enter Tryz.func35, Tryz.ntmps35
  go_wp2_with fail
  go_ret
  exact ⟨rfl, rfl⟩
/-- Has a response of a status no body? -/
def noBodyB (c : Int) : Bool := decide (c = 204) || (decide (c = 304) || (decide (100 ≤ c) && decide (c ≤ 199)))
set_option maxRecDepth 100000 in
theorem noBody_any (w : World) (c : Int) : Calls Tryz.prog 76 #[.int .i64 c] w fun e w' => e = .returned (.bool (noBodyB c)) ∧ w' = w := by
  by_cases h1 : c = 204
  · subst h1
    go_enter Tryz.func76, Tryz.ntmps76
    go_wp2_with fail
    go_ret
    exact ⟨rfl, rfl⟩
  by_cases h2 : c = 304
  · subst h2
    go_enter Tryz.func76, Tryz.ntmps76
    go_wp2_with fail
    go_ret
    exact ⟨rfl, rfl⟩
  have e1 : (c == 204) = false := by simp [h1]
  have e2 : (c == 304) = false := by simp [h2]
  have e : noBodyB c = (decide (100 ≤ c) && decide (c ≤ 199)) := by unfold noBodyB; simp [h1, h2]
  rw [e]
  clear h1 h2 e
  by_cases h3 : 100 ≤ c
  · by_cases h4 : c ≤ 199
    · rw [decide_eq_true h3, decide_eq_true h4]
      go_enter Tryz.func76, Tryz.ntmps76
      go_wp2_with fail
      go_ret
      exact ⟨rfl, rfl⟩
    · rw [decide_eq_true h3, decide_eq_false h4]
      go_enter Tryz.func76, Tryz.ntmps76
      go_wp2_with fail
      go_ret
      exact ⟨rfl, rfl⟩
  · rw [decide_eq_false h3, Bool.false_and]
    go_enter Tryz.func76, Tryz.ntmps76
    go_wp2_with fail
    go_ret
    exact ⟨rfl, rfl⟩
set_option maxRecDepth 100000 in
theorem rNoBody_any (w : World) (c : Int) : Calls Tryz.prog 36 #[.int .i64 c] w fun e w' => e = .returned (.bool (noBodyB c)) ∧ w' = w := by
  by_cases h1 : c = 204
  · subst h1
    go_enter Tryz.func36, Tryz.ntmps36
    go_wp2_with fail
    go_ret
    exact ⟨rfl, rfl⟩
  by_cases h2 : c = 304
  · subst h2
    go_enter Tryz.func36, Tryz.ntmps36
    go_wp2_with fail
    go_ret
    exact ⟨rfl, rfl⟩
  have e1 : (c == 204) = false := by simp [h1]
  have e2 : (c == 304) = false := by simp [h2]
  have e : noBodyB c = (decide (100 ≤ c) && decide (c ≤ 199)) := by unfold noBodyB; simp [h1, h2]
  rw [e]
  clear h1 h2 e
  by_cases h3 : 100 ≤ c
  · by_cases h4 : c ≤ 199
    · rw [decide_eq_true h3, decide_eq_true h4]
      go_enter Tryz.func36, Tryz.ntmps36
      go_wp2_with fail
      go_ret
      exact ⟨rfl, rfl⟩
    · rw [decide_eq_true h3, decide_eq_false h4]
      go_enter Tryz.func36, Tryz.ntmps36
      go_wp2_with fail
      go_ret
      exact ⟨rfl, rfl⟩
  · rw [decide_eq_false h3, Bool.false_and]
    go_enter Tryz.func36, Tryz.ntmps36
    go_wp2_with fail
    go_ret
    exact ⟨rfl, rfl⟩
end Go.Proofs.YtiglfbimijnpcaaGreatDoor

