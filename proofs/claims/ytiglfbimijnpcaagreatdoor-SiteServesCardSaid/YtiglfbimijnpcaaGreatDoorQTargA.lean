/- Paths without detours: as words over bytes. No program in sight. -/
import Derived.Lib.SplitLaws
import Derived.Lib.IndexBytes
import Derived.Test.YtiglfbimijnpcaaGreatDoorQFieldB
namespace Go.Proofs.YtiglfbimijnpcaaGreatDoor

abbrev Txt := List UInt8

/-- The pieces of a text between bytes d; what stands ahead is cur. A piece ends with d. -/
def segsB (d : UInt8) : Txt → Txt → List Txt
  | _, [] => []
  | cur, c :: l => if c = d then cur :: segsB d [] l else segsB d (cur ++ [c]) l
def cutsL (d : UInt8) (v : Txt) : List Txt := segsB d [] (v ++ [d])

theorem segsB_append (d : UInt8) (cur x y : Txt) : segsB d cur (x ++ d :: y) = segsB d cur (x ++ [d]) ++ segsB d [] y := by
  induction x generalizing cur with
  | nil => simp [segsB]
  | cons c x ih =>
    simp only [List.cons_append, segsB]
    split
    · rw [ih]; rfl
    · exact ih _
theorem segsB_none (d : UInt8) (cur x : Txt) (h : ∀ c ∈ x, c ≠ d) : segsB d cur (x ++ [d]) = [cur ++ x] := by
  induction x generalizing cur with
  | nil => simp [segsB]
  | cons c x ih =>
    rw [List.cons_append, segsB, if_neg (h c (by simp)), ih _ (fun e he => h e (by simp [he]))]
    simp
theorem segsB_hit (d : UInt8) (cur x y : Txt) (h : ∀ c ∈ x, c ≠ d) : segsB d cur (x ++ d :: y) = (cur ++ x) :: segsB d [] y := by
  rw [segsB_append, segsB_none _ _ _ h]; rfl
theorem segsB_len (d : UInt8) (cur l : Txt) : ∀ p ∈ segsB d cur l, p.length ≤ cur.length + l.length := by
  induction l generalizing cur with
  | nil => intro p hp; cases hp
  | cons c l ih =>
    intro p hp
    rw [segsB] at hp
    split at hp
    · rcases List.mem_cons.1 hp with rfl | hp
      · simp
      · have := ih [] p hp; simp at this ⊢; omega
    · have := ih _ p hp; simp at this ⊢; omega
theorem cutsL_len {d : UInt8} {v p : Txt} (h : p ∈ cutsL d v) : p.length ≤ v.length + 1 := by
  have := segsB_len d [] _ p h
  simpa using this
theorem segsB_many (d : UInt8) (cur l : Txt) : (segsB d cur l).length ≤ l.length := by
  induction l generalizing cur with
  | nil => simp [segsB]
  | cons c l ih =>
    rw [segsB]
    split
    · have := ih []; simp; omega
    · have := ih (cur ++ [c]); simp; omega
theorem cutsL_many (d : UInt8) (v : Txt) : (cutsL d v).length ≤ v.length + 1 := by
  have := segsB_many d [] (v ++ [d])
  simpa [cutsL] using this
theorem segsB_sum (d : UInt8) (cur l : Txt) : ((segsB d cur l).map (·.length + 1)).sum ≤ cur.length + l.length := by
  induction l generalizing cur with
  | nil => simp [segsB]
  | cons c l ih =>
    rw [segsB]
    split
    · have := ih []; simp at this ⊢; omega
    · have := ih (cur ++ [c]); simp at this ⊢; omega

theorem take_noB {d : UInt8} {l : Txt} {i : Nat} (h : ∀ j, j < i → l[j]? ≠ some d) : ∀ c ∈ l.take i, c ≠ d := by
  intro c hc e
  subst e
  obtain ⟨j, hj⟩ := List.getElem?_of_mem hc
  have hlt : j < i := by
    have := (List.getElem?_eq_some_iff.1 hj).1
    rw [List.length_take] at this; omega
  rw [List.getElem?_take, if_pos hlt] at hj
  exact h j hlt hj
theorem splitK_byte (d : UInt8) : ∀ (k : Nat) (s : Txt), Lib.count s [d] = k → Lib.splitK [d] 0 k s = cutsL d s
  | 0, s, h => by
    rw [Lib.splitK]
    have : Lib.index s [d] = -1 := by
      rcases index_cases s d with g | ⟨i, g⟩
      · rw [Lib.index_one]; exact g
      · have := Lib.count_hit (s := s) (sub := [d]) (i := i) (by simp) (by rw [Lib.index_one]; exact g)
        omega
    rw [Lib.index_one] at this
    unfold cutsL
    rw [segsB_none d [] s (fun c hc e => by
      subst e
      obtain ⟨j, hj⟩ := List.getElem?_of_mem hc
      exact Lib.indexByte_none this j hj)]
    rfl
  | k + 1, s, h => by
    rw [Lib.splitK]
    rcases index_cases s d with g | ⟨i, g⟩
    · have := Lib.count_miss (s := s) (sub := [d]) (by rw [Lib.index_one]; exact g)
      omega
    · have hi := index_lt s d i g
      have hix : Lib.index s [d] = i := by rw [Lib.index_one]; exact g
      have hc := Lib.count_hit (s := s) (sub := [d]) (i := i) (by simp) hix
      have e0 : ([d] : Txt).length = 1 := rfl
      rw [e0] at hc
      obtain ⟨g1, g2⟩ := Lib.indexByte_some g
      rw [hix, if_neg (by simp)]
      have e1 : ((i : Int)).toNat = i := by omega
      rw [e1, e0, Nat.add_zero, splitK_byte d k (s.drop (i + 1)) (by omega)]
      have hs : s = s.take i ++ d :: s.drop (i + 1) := by
        have h1 : s[i]? = some d := g1
        rw [List.getElem?_eq_getElem hi] at h1
        injection h1 with h1
        rw [← h1, List.getElem_cons_drop hi, List.take_append_drop]
      conv => rhs; rw [hs]
      unfold cutsL
      rw [List.append_assoc, List.cons_append, segsB_hit _ _ _ _ (take_noB g2)]
      rfl
theorem split_byte (d : UInt8) (s : ByteArray) : (Lib.splitB ⟨#[d]⟩ 0 (Lib.countB s ⟨#[d]⟩) s).map (·.data.toList) = cutsL d s.data.toList := by
  rw [Lib.splitB_data]
  exact splitK_byte d _ _ rfl

/-! A path without detours. -/
def stepC : Option (List Txt) → Txt → Option (List Txt)
  | none, _ => none
  | some l, p => if p = [] ∨ p = [46] then some l else if p = [46, 46] then (if l = [] then none else some l.dropLast) else some (l ++ [p])
def foldC (st : Option (List Txt)) (ps : List Txt) : Option (List Txt) := ps.foldl stepC st
def outC : List Txt → Txt
  | [] => []
  | p :: r => 47 :: (p ++ outC r)
def endC (last out : Txt) : Txt := if last = [] ∨ last = [46] ∨ last = [46, 46] ∨ out = [] then out ++ [47] else out
def cleanL (s : Txt) : Option Txt := if s.head? = some 47 then (foldC (some []) (cutsL 47 s)).map (fun l => endC ((cutsL 47 s).getLastD []) (outC l)) else none

theorem foldC_none (ps : List Txt) : foldC none ps = none := by
  induction ps with
  | nil => rfl
  | cons p ps ih => exact ih
theorem foldC_cons (st : Option (List Txt)) (p : Txt) (ps : List Txt) : foldC st (p :: ps) = foldC (stepC st p) ps := rfl
theorem stepC_skip (l : List Txt) (p : Txt) (h : p = [] ∨ p = [46]) : stepC (some l) p = some l := by simp only [stepC, if_pos h]
theorem stepC_up0 : stepC (some []) [46, 46] = none := by simp [stepC]
theorem stepC_up (l : List Txt) (h : l ≠ []) : stepC (some l) [46, 46] = some l.dropLast := by simp [stepC, h]
theorem stepC_push (l : List Txt) (p : Txt) (h1 : p ≠ []) (h2 : p ≠ [46]) (h3 : p ≠ [46, 46]) : stepC (some l) p = some (l ++ [p]) := by
  simp [stepC, h1, h2, h3]
theorem outC_append (a b : List Txt) : outC (a ++ b) = outC a ++ outC b := by
  induction a with
  | nil => rfl
  | cons p a ih => simp [outC, ih]
theorem outC_take_succ {l : List Txt} {k : Nat} (h : k < l.length) : outC (l.take (k + 1)) = outC (l.take k) ++ 47 :: l[k] := by
  rw [List.take_succ_eq_append_getElem h, outC_append]
  simp [outC]
theorem outC_len (l : List Txt) : (outC l).length = (l.map (·.length + 1)).sum := by
  induction l with
  | nil => rfl
  | cons p l ih => simp [outC, ih]; omega
theorem dropLast_sum (l : List Txt) : ((l.dropLast).map (·.length + 1)).sum ≤ (l.map (·.length + 1)).sum := by
  rcases List.eq_nil_or_concat l with rfl | ⟨r, a, rfl⟩
  · simp
  · simp
theorem cutsL_slash (r : Txt) : cutsL 47 (47 :: r) = [] :: cutsL 47 r := by
  unfold cutsL
  rw [List.cons_append, segsB, if_pos rfl]
theorem cleanL_slash (r : Txt) : cleanL (47 :: r) = (foldC (some []) (cutsL 47 r)).map (fun l => endC ((cutsL 47 r).getLastD []) (outC l)) := by
  unfold cleanL
  rw [if_pos (show (47 :: r).head? = some 47 from rfl), cutsL_slash, foldC_cons, stepC_skip _ _ (Or.inl rfl)]
  simp only [List.getLastD_cons]
theorem cleanL_no {s : Txt} (h : s.head? ≠ some 47) : cleanL s = none := by
  unfold cleanL; rw [if_neg h]
end Go.Proofs.YtiglfbimijnpcaaGreatDoor

