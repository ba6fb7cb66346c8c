/- Lists of tokens, quoted texts, parameters: as words over bytes. No program in sight. -/
import Derived.Lib.SplitLaws
import Derived.Lib.IndexBytes
import Derived.Test.YtppciofbaohpdaaDoorFieldC
namespace Go.Proofs.YtppciofbaohpdaaDoor

/-! Quoted texts. -/
def quoteR : List UInt8 → List UInt8 → Nat → List UInt8 × Nat
  | [], _, _ => ([], 0)
  | [c], acc, i => if c = 34 then (acc, i + 1) else ([], 0)
  | c :: d :: r, acc, i =>
    if c = 34 then (acc, i + 1)
    else if c = 92 then (if valB d = true then quoteR r (acc ++ [d]) (i + 2) else ([], 0))
    else if valB c = true then quoteR (d :: r) (acc ++ [c]) (i + 1) else ([], 0)
def quoteL : List UInt8 → List UInt8 × Nat
  | [] => ([], 0)
  | c :: r => if c = 34 then quoteR r [] 1 else ([], 0)

theorem quoteR_end (c : UInt8) (r acc : List UInt8) (i : Nat) (h : c = 34) : quoteR (c :: r) acc i = (acc, i + 1) := by
  cases r <;> simp [quoteR, h]
theorem quoteR_esc (d : UInt8) (r acc : List UInt8) (i : Nat) : quoteR (92 :: d :: r) acc i = if valB d = true then quoteR r (acc ++ [d]) (i + 2) else ([], 0) := by
  simp [quoteR]
theorem quoteR_esc0 (acc : List UInt8) (i : Nat) : quoteR [92] acc i = ([], 0) := by simp [quoteR]
theorem quoteR_byte (c : UInt8) (r acc : List UInt8) (i : Nat) (h1 : c ≠ 34) (h2 : c ≠ 92) : quoteR (c :: r) acc i = if valB c = true then quoteR r (acc ++ [c]) (i + 1) else ([], 0) := by
  cases r with
  | nil => simp [quoteR, h1]
  | cons d r => simp [quoteR, h1, h2]

theorem quoteR_cut : ∀ (r acc : List UInt8) (i : Nat) (a : List UInt8) (n : Nat), quoteR r acc i = (a, n) → n ≠ 0 →
    i < n ∧ n ≤ i + r.length ∧ quoteR (r.take (n - i)) acc i = (a, n) ∧ (quoteR (r.take (n - 1 - i)) acc i).2 = 0
  | [], acc, i, a, n, h, hn => by simp [quoteR] at h; omega
  | [c], acc, i, a, n, h, hn => by
    by_cases h1 : c = 34
    · rw [quoteR_end c [] acc i h1] at h
      injection h with h2 h3
      subst h3
      have e1 : i + 1 - i = 1 := by omega
      have e2 : i + 1 - 1 - i = 0 := by omega
      rw [e1, e2]
      exact ⟨by omega, by simp, by simp [quoteR, h1, h2], by simp [quoteR]⟩
    · simp [quoteR, h1] at h; omega
  | c :: d :: r, acc, i, a, n, h, hn => by
    by_cases h1 : c = 34
    · rw [quoteR_end c _ acc i h1] at h
      injection h with h2 h3
      subst h3
      have e1 : i + 1 - i = 1 := by omega
      have e2 : i + 1 - 1 - i = 0 := by omega
      rw [e1, e2]
      exact ⟨by omega, by simp, by simp [quoteR, h1, h2], by simp [quoteR]⟩
    · by_cases h2 : c = 92
      · subst h2
        rw [quoteR_esc] at h
        split at h
        · rename_i hd
          obtain ⟨g1, g2, g3, g4⟩ := quoteR_cut r _ _ a n h hn
          have e1 : n - i = (n - (i + 2)) + 1 + 1 := by omega
          refine ⟨by omega, by simp at g2 ⊢; omega, ?_, ?_⟩
          · rw [e1, List.take_succ_cons, List.take_succ_cons, quoteR_esc, if_pos hd]
            exact g3
          · rcases Nat.lt_or_ge (n - 1) (i + 2) with g | g
            · have e2 : n - 1 - i = 1 := by omega
              rw [e2]
              simp [quoteR]
            · have e2 : n - 1 - i = (n - 1 - (i + 2)) + 1 + 1 := by omega
              rw [e2, List.take_succ_cons, List.take_succ_cons, quoteR_esc, if_pos hd]
              exact g4
        · injection h with _ h3; omega
      · rw [quoteR_byte c _ acc i h1 h2] at h
        split at h
        · rename_i hd
          obtain ⟨g1, g2, g3, g4⟩ := quoteR_cut (d :: r) _ _ a n h hn
          have e1 : n - i = (n - (i + 1)) + 1 := by omega
          refine ⟨by omega, by simp at g2 ⊢; omega, ?_, ?_⟩
          · rw [e1, List.take_succ_cons, quoteR_byte c _ acc i h1 h2, if_pos hd]
            exact g3
          · rcases Nat.lt_or_ge (n - 1) (i + 1) with g | g
            · omega
            · have e2 : n - 1 - i = (n - 1 - (i + 1)) + 1 := by omega
              rw [e2, List.take_succ_cons, quoteR_byte c _ acc i h1 h2, if_pos hd]
              exact g4
        · injection h with _ h3; omega

theorem quoteL_cut {l a : List UInt8} {n : Nat} (h : quoteL l = (a, n)) (hn : n ≠ 0) : n ≤ l.length ∧ quoteL (l.take n) = (a, n) ∧ (quoteL (l.take (n - 1))).2 = 0 ∧ 2 ≤ n := by
  cases l with
  | nil => simp [quoteL] at h; omega
  | cons c r =>
    by_cases hc : c = 34
    · rw [quoteL, if_pos hc] at h
      obtain ⟨g1, g2, g3, g4⟩ := quoteR_cut r [] 1 a n h hn
      obtain ⟨m, rfl⟩ : ∃ m, n = m + 2 := ⟨n - 2, by omega⟩
      refine ⟨by simp; omega, ?_, ?_, by omega⟩
      · rw [List.take_succ_cons, quoteL, if_pos hc]; exact g3
      · have e : m + 2 - 1 = m + 1 := by omega
        rw [e, List.take_succ_cons, quoteL, if_pos hc]; exact g4
    · rw [quoteL, if_neg hc] at h
      injection h with _ h; omega

/-! Pieces between commas; tokens. -/
def segsT : List UInt8 → List UInt8 → List (List UInt8)
  | _, [] => []
  | cur, c :: l => if c = 44 then cur :: segsT [] l else segsT (cur ++ [c]) l
def commaL (v : List UInt8) : List (List UInt8) := segsT [] (v ++ [44])
theorem segsT_append (cur x y : List UInt8) : segsT cur (x ++ 44 :: y) = segsT cur (x ++ [44]) ++ segsT [] y := by
  induction x generalizing cur with
  | nil => simp [segsT]
  | cons c x ih =>
    simp only [List.cons_append, segsT]
    split
    · rw [ih]; rfl
    · exact ih _
theorem commaL_join (a b : List UInt8) : commaL (a ++ 44 :: b) = commaL a ++ commaL b := by
  unfold commaL
  rw [List.append_assoc, List.cons_append]
  exact segsT_append [] a (b ++ [44])
theorem segsT_none (cur x : List UInt8) (h : ∀ c ∈ x, c ≠ 44) : segsT cur (x ++ [44]) = [cur ++ x] := by
  induction x generalizing cur with
  | nil => simp [segsT]
  | cons c x ih =>
    rw [List.cons_append, segsT, if_neg (h c (by simp)), ih _ (fun d hd => h d (by simp [hd]))]
    simp
theorem commaL_none {v : List UInt8} (h : ∀ c ∈ v, c ≠ 44) : commaL v = [v] := by
  unfold commaL; rw [segsT_none _ _ h]; rfl

def toksA : List (List UInt8) → List (List UInt8) → Option (List (List UInt8))
  | acc, [] => some acc
  | acc, p :: ps => if trimL p = [] then toksA acc ps else if tokL (trimL p) = true then toksA (acc ++ [lowL (trimL p)]) ps else none
def tokensL (values : List (List UInt8)) : Option (List (List UInt8)) := toksA [] (values.flatMap commaL)

theorem toksA_blank {p : List UInt8} (acc ps : List (List UInt8)) (h : trimL p = []) : toksA acc (p :: ps) = toksA acc ps := by rw [toksA, if_pos h]
theorem toksA_tok {p : List UInt8} (acc ps : List (List UInt8)) (h : trimL p ≠ []) (ht : tokL (trimL p) = true) : toksA acc (p :: ps) = toksA (acc ++ [lowL (trimL p)]) ps := by rw [toksA, if_neg h, if_pos ht]
theorem toksA_bad {p : List UInt8} (acc ps : List (List UInt8)) (h : trimL p ≠ []) (ht : tokL (trimL p) = false) : toksA acc (p :: ps) = none := by rw [toksA, if_neg h, if_neg (by simp [ht])]

/-- A token in small letters. -/
def smallTok (l : List UInt8) : Prop := tokL l = true ∧ lowL l = l
theorem lowC_lowC (c : UInt8) : lowC (lowC c) = lowC c := by
  have := byte_all (fun c => lowC (lowC c) == lowC c) (by decide +kernel) c
  simpa using this
theorem lowL_lowL (l : List UInt8) : lowL (lowL l) = lowL l := by
  unfold lowL; rw [List.map_map]; congr 1; funext c; exact lowC_lowC c
theorem tok_low {l : List UInt8} (h : tokL l = true) : smallTok (lowL l) := by
  refine ⟨?_, lowL_lowL l⟩
  unfold tokL at h ⊢
  simp only [Bool.and_eq_true] at h ⊢
  refine ⟨by cases l with | nil => simp at h | cons a l => rfl, ?_⟩
  rw [List.all_eq_true] at *
  intro c hc
  obtain ⟨d, hd, rfl⟩ := List.mem_map.1 hc
  have := byte_all (fun c => !tokB c || tokB (lowC c)) (by decide +kernel) d
  have h2 := h.2 d hd
  simpa [h2] using this
theorem toksA_small : ∀ (ps acc : List (List UInt8)) (r : List (List UInt8)), toksA acc ps = some r → (∀ l ∈ acc, smallTok l) → ∀ l ∈ r, smallTok l
  | [], acc, r, h, ha => by simp [toksA] at h; subst h; exact ha
  | p :: ps, acc, r, h, ha => by
    by_cases h1 : trimL p = []
    · rw [toksA_blank acc ps h1] at h; exact toksA_small ps acc r h ha
    · cases h2 : tokL (trimL p)
      · rw [toksA_bad acc ps h1 h2] at h; cases h
      · rw [toksA_tok acc ps h1 h2] at h
        refine toksA_small ps _ r h (fun l hl => ?_)
        rcases List.mem_append.1 hl with g | g
        · exact ha l g
        · obtain rfl := List.mem_singleton.1 g; exact tok_low h2
theorem tokensL_small {values r : List (List UInt8)} (h : tokensL values = some r) : ∀ l ∈ r, smallTok l := toksA_small _ _ _ h (fun l hl => by cases hl)

/-! strings.Split at a comma. -/
theorem segsT_hit (cur x y : List UInt8) (h : ∀ c ∈ x, c ≠ 44) : segsT cur (x ++ 44 :: y) = (cur ++ x) :: segsT [] y := by
  rw [segsT_append, segsT_none _ _ h]; rfl
theorem take_no {l : List UInt8} {i : Nat} (h : ∀ j, j < i → l[j]? ≠ some 44) : ∀ c ∈ l.take i, c ≠ 44 := by
  intro c hc e
  subst e
  obtain ⟨j, hj⟩ := List.getElem?_of_mem hc
  have hlt : j < i := by
    have := (List.getElem?_eq_some_iff.1 hj).1
    rw [List.length_take] at this; omega
  rw [List.getElem?_take, if_pos hlt] at hj
  exact h j hlt hj
theorem splitK_comma : ∀ (k : Nat) (s : List UInt8), Lib.count s [44] = k → Lib.splitK [44] 0 k s = commaL s
  | 0, s, h => by
    rw [Lib.splitK]
    have : Lib.index s [44] = -1 := by
      rcases index_cases s 44 with g | ⟨i, g⟩
      · rw [Lib.index_one]; exact g
      · have := Lib.count_hit (s := s) (sub := [44]) (i := i) (by simp) (by rw [Lib.index_one]; exact g)
        omega
    rw [Lib.index_one] at this
    rw [commaL_none (fun c hc e => by
      subst e
      obtain ⟨j, hj⟩ := List.getElem?_of_mem hc
      exact Lib.indexByte_none this j hj)]
  | k + 1, s, h => by
    rw [Lib.splitK]
    rcases index_cases s 44 with g | ⟨i, g⟩
    · have := Lib.count_miss (s := s) (sub := [44]) (by rw [Lib.index_one]; exact g)
      omega
    · have hi := index_lt s 44 i g
      have hix : Lib.index s [44] = i := by rw [Lib.index_one]; exact g
      have hc := Lib.count_hit (s := s) (sub := [44]) (i := i) (by simp) hix
      have e0 : ([44] : List UInt8).length = 1 := rfl
      rw [e0] at hc
      obtain ⟨g1, g2⟩ := Lib.indexByte_some g
      rw [hix, if_neg (by simp)]
      have e1 : ((i : Int)).toNat = i := by omega
      rw [e1, e0, Nat.add_zero, splitK_comma k (s.drop (i + 1)) (by omega)]
      have hs : s = s.take i ++ 44 :: s.drop (i + 1) := by
        have h1 : s[i]? = some 44 := g1
        rw [List.getElem?_eq_getElem hi] at h1
        injection h1 with h1
        rw [← h1, List.getElem_cons_drop hi, List.take_append_drop]
      conv => rhs; rw [hs]
      unfold commaL
      rw [List.append_assoc, List.cons_append, segsT_hit _ _ _ (take_no g2)]
      rfl
theorem split_comma (s : ByteArray) : (Lib.splitB ⟨#[44]⟩ 0 (Lib.countB s ⟨#[44]⟩) s).map (·.data.toList) = commaL s.data.toList := by
  rw [Lib.splitB_data]
  exact splitK_comma _ _ rfl

/-! Parameters. -/
def tokPre (l : List UInt8) : List UInt8 := l.takeWhile tokB
/-- Behind a parameter's name. -/
def paramR (n : List UInt8) : List UInt8 → Option ((List UInt8 × List UInt8) × List UInt8)
  | [] => some ((n, []), [])
  | d :: s =>
    if d = 61 then
      if (quoteL s).2 = 0 then (if tokPre s = [] then none else some ((n, tokPre s), s.drop (tokPre s).length))
      else some ((n, (quoteL s).1), s.drop (quoteL s).2)
    else some ((n, []), d :: s)
def paramL : List UInt8 → Option ((List UInt8 × List UInt8) × List UInt8)
  | [] => none
  | c :: r =>
    if c = 59 then
      if tokPre (dropL r) = [] then none else paramR (tokPre (dropL r)) ((dropL r).drop (tokPre (dropL r)).length)
    else none
def paramsF : Nat → List (List UInt8 × List UInt8) → List UInt8 → Option (List (List UInt8 × List UInt8))
  | 0, _, _ => none
  | k + 1, acc, s =>
    if dropL s = [] then some acc
    else match paramL (dropL s) with
      | none => none
      | some (p, r) => if k = 0 then none else paramsF k (acc ++ [p]) r
def paramsL (s : List UInt8) : Option (List (List UInt8 × List UInt8)) := paramsF 17 [] s
end Go.Proofs.YtppciofbaohpdaaDoor
