/- ListBack: the plain law. -/
import Derived.Test.YtppciofbaohpdaaDoorListM
namespace Go.Proofs.YtppciofbaohpdaaDoor
open Go.RowKit Go.Proofs

def escC (c : UInt8) : List UInt8 := if c = 34 ∨ c = 92 then [92, c] else [c]
def escL (v : List UInt8) : List UInt8 := v.flatMap escC
theorem escL_snoc (v : List UInt8) (c : UInt8) : escL (v ++ [c]) = escL v ++ escC c := by simp [escL]
theorem escL_len (v : List UInt8) : (escL v).length ≤ 2 * v.length := by
  induction v with
  | nil => simp [escL]
  | cons c v ih =>
    have : escL (c :: v) = escC c ++ escL v := rfl
    rw [this, List.length_append, List.length_cons]
    have : (escC c).length ≤ 2 := by unfold escC; split <;> simp
    omega

theorem quoteR_escL (v : List UInt8) (rest acc : List UInt8) (i : Nat) : quoteR (escL v ++ 34 :: rest) acc i = if v.all valB = true then (acc ++ v, i + (escL v).length + 1) else ([], 0) := by
  induction v generalizing acc i with
  | nil => simp [escL, quoteR_end]
  | cons c v ih =>
    have e : escL (c :: v) = escC c ++ escL v := rfl
    rw [e]
    by_cases hc : c = 34 ∨ c = 92
    · have hv : valB c = true := by rcases hc with rfl | rfl <;> decide
      have e2 : escC c = [92, c] := by unfold escC; rw [if_pos hc]
      rw [e2]
      show quoteR (92 :: c :: (escL v ++ 34 :: rest)) acc i = _
      rw [quoteR_esc, if_pos hv, ih]
      simp only [List.all_cons, hv, Bool.true_and, List.append_assoc, List.length_append, List.length_cons, List.length_nil]
      split
      · congr 1; omega
      · rfl
    · have e2 : escC c = [c] := by unfold escC; rw [if_neg hc]
      rw [e2]
      show quoteR (c :: (escL v ++ 34 :: rest)) acc i = _
      rw [quoteR_byte c _ acc i (fun h => hc (Or.inl h)) (fun h => hc (Or.inr h))]
      cases hv : valB c
      · simp [hv]
      · rw [if_pos rfl, ih]
        simp only [List.all_cons, hv, Bool.true_and, List.append_assoc, List.length_append, List.length_cons, List.length_nil]
        split
        · congr 1; omega
        · rfl
theorem quoteL_esc (v rest : List UInt8) : quoteL (34 :: (escL v ++ 34 :: rest)) = if v.all valB = true then (v, (escL v).length + 2) else ([], 0) := by
  rw [quoteL, if_pos rfl, quoteR_escL]
  split
  · simp; omega
  · rfl

def itemL (p : Par) : List UInt8 := [32, 59, 32] ++ p.1 ++ [61] ++ (34 :: escL p.2) ++ [34]
def goodP (p : Par) : Prop := tokL p.1 = true ∧ p.2.all valB = true

theorem tok_head {n : List UInt8} (h : tokL n = true) : ∃ c l, n = c :: l ∧ blB c = false := by
  cases n with
  | nil => simp [tokL] at h
  | cons c l =>
    refine ⟨c, l, rfl, ?_⟩
    unfold tokL at h
    simp only [Bool.and_eq_true, List.all_cons] at h
    have := byte_all (fun c => !tokB c || !blB c) (by decide +kernel) c
    rw [h.2.1] at this
    simpa using this
theorem tokPre_name {n rest : List UInt8} (h : tokL n = true) : tokPre (n ++ 61 :: rest) = n := by
  unfold tokPre
  have h2 : ∀ c ∈ n, tokB c = true := by
    unfold tokL at h
    simp only [Bool.and_eq_true] at h
    exact List.all_eq_true.1 h.2
  rw [while_take (k := n.length) (by simp) (fun c hc => by rw [List.take_left] at hc; exact h2 c hc) (fun _ => by
    rw [List.getElem_append_right (Nat.le_refl _)]; simp; decide +kernel), List.take_left]

theorem param_item {p : Par} (hp : goodP p) (rest : List UInt8) : dropL (itemL p ++ rest) ≠ [] ∧ paramL (dropL (itemL p ++ rest)) = some (p, rest) := by
  obtain ⟨n, v⟩ := p
  obtain ⟨h1, h2⟩ := hp
  dsimp only at h1 h2
  obtain ⟨c, l, hn, hb⟩ := tok_head h1
  have e0 : itemL (n, v) ++ rest = 32 :: 59 :: 32 :: (n ++ 61 :: (34 :: (escL v ++ 34 :: rest))) := by simp [itemL]
  have e1 : dropL (itemL (n, v) ++ rest) = 59 :: 32 :: (n ++ 61 :: (34 :: (escL v ++ 34 :: rest))) := by
    rw [e0]
    unfold dropL
    rw [List.dropWhile_cons, if_pos (by decide), List.dropWhile_cons, if_neg (by decide)]
  have e2 : dropL (32 :: (n ++ 61 :: (34 :: (escL v ++ 34 :: rest)))) = n ++ 61 :: (34 :: (escL v ++ 34 :: rest)) := by
    unfold dropL
    rw [List.dropWhile_cons, if_pos (by decide), hn, List.cons_append, List.dropWhile_cons, if_neg (by simp [hb])]
  refine ⟨by rw [e1]; simp, ?_⟩
  rw [e1, paramL_eq rfl, e2, tokPre_name h1, if_neg (by rw [hn]; simp), List.drop_left, paramR, if_pos rfl, quoteL_esc, if_pos h2, if_neg (by simp)]
  congr 2
  have e3 : (34 : UInt8) :: (escL v ++ 34 :: rest) = (34 :: (escL v ++ [34])) ++ rest := by simp
  rw [e3]
  exact List.drop_left' (by simp)

theorem params_items : ∀ (ps acc : List Par), (∀ p ∈ ps, goodP p) → acc.length + ps.length ≤ 16 → paramsF (17 - acc.length) acc (ps.flatMap itemL) = some (acc ++ ps)
  | [], acc, _, hl => by
    obtain ⟨k, hk⟩ : ∃ k, 17 - acc.length = k + 1 := ⟨16 - acc.length, by simp at hl; omega⟩
    rw [hk, paramsF_end rfl]
    simp
  | p :: ps, acc, hg, hl => by
    obtain ⟨k, hk⟩ : ∃ k, 17 - acc.length = k + 1 := ⟨16 - acc.length, by simp at hl; omega⟩
    obtain ⟨g1, g2⟩ := param_item (hg p (by simp)) (ps.flatMap itemL)
    have e : (p :: ps).flatMap itemL = itemL p ++ ps.flatMap itemL := rfl
    rw [hk, e, paramsF_some g1 g2 (by simp at hl; omega)]
    have e2 : k = 17 - (acc ++ [p]).length := by simp; omega
    rw [e2, params_items ps (acc ++ [p]) (fun q hq => hg q (List.mem_cons_of_mem _ hq)) (by simp at hl ⊢; omega)]
    simp
theorem params_back {ps : List Par} (hg : ∀ p ∈ ps, goodP p) (hl : ps.length ≤ 16) : paramsL (ps.flatMap itemL) = some ps := params_items ps [] hg (by simpa using hl)
end Go.Proofs.YtppciofbaohpdaaDoor
