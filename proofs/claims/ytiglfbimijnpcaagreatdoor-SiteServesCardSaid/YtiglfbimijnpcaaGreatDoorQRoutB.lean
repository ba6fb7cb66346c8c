/- Routes: the laws on which pattern serves a path, in words. No program in sight. -/
import Derived.Test.YtiglfbimijnpcaaGreatDoorQRoutA
namespace Go.Proofs.YtiglfbimijnpcaaGreatDoor

/-! One pattern alone. -/
theorem sel_all {L : List Lt} {p : Txt} (h : ∀ x ∈ L, x.pat = p) : sel L (keyL p) = L := by
  unfold sel
  rw [List.filter_eq_self]
  intro x hx
  rw [h x hx]; simp
theorem findP_ne {L : List Lt} {path : Txt} {k : Bool × Txt} {rest : Txt} (h : findP L path = some (k, rest)) : sel L k ≠ [] := by
  rcases find_same L path with ⟨h1, _⟩ | ⟨k', rest', h1, _, _, h2, _⟩
  · rw [h] at h1; cases h1
  · rw [h] at h1
    injection h1 with h1
    injection h1 with h1 _
    rw [h1]; exact h2
theorem find_one {L : List Lt} {p : Txt} (h : ∀ x ∈ L, x.pat = p) (path : Txt) : findP L path = none ∨ ∃ k rest, findP L path = some (k, rest) ∧ sel L k = L := by
  cases hf : findP L path with
  | none => exact Or.inl rfl
  | some kr =>
    obtain ⟨k, rest⟩ := kr
    refine Or.inr ⟨k, rest, rfl, ?_⟩
    have hne := findP_ne hf
    obtain ⟨x, hx⟩ := List.exists_mem_of_ne_nil _ hne
    unfold sel at hx
    have hx := List.mem_filter.1 hx
    have e : keyL x.pat = k := by simpa using hx.2
    rw [← e, h x hx.1]
    exact sel_all h
theorem match_none {L : List Lt} {m path : Txt} (h : findP L path = none) : matchL L m path = (0, [], [], 404) := by unfold matchL; rw [h]
theorem match_some {L : List Lt} {m path : Txt} {k : Bool × Txt} {rest : Txt} {i : Int} (h : findP L path = some (k, rest)) (hp : pickL (sel L k) m = some i) : matchL L m path = (i, rest, [], 200) := by unfold matchL; rw [h]; simp only [hp]
theorem match_not {L : List Lt} {m path : Txt} {k : Bool × Txt} {rest : Txt} (h : findP L path = some (k, rest)) (hp : pickL (sel L k) m = none) : matchL L m path = (0, [], allowP (sel L k), 405) := by unfold matchL; rw [h]; simp only [hp]
theorem find_nil (path : Txt) : findP [] path = none := by
  cases hf : findP [] path with
  | none => rfl
  | some kr => exact absurd rfl (findP_ne (rest := kr.2) (k := kr.1) hf)

/-! Patterns in any order. -/
theorem clash_comm (a b : List Txt) : clash a b = clash b a := by
  unfold clash
  rw [Bool.eq_iff_iff]
  simp only [Bool.or_eq_true, List.isEmpty_iff, List.any_eq_true, List.contains_iff_mem]
  constructor
  · rintro ((h | h) | ⟨x, h1, h2⟩)
    · exact Or.inl (Or.inr h)
    · exact Or.inl (Or.inl h)
    · exact Or.inr ⟨x, h2, h1⟩
  · rintro ((h | h) | ⟨x, h1, h2⟩)
    · exact Or.inl (Or.inr h)
    · exact Or.inl (Or.inl h)
    · exact Or.inr ⟨x, h2, h1⟩
/-- Routes that were all taken. -/
def Taken (L : List Lt) : Prop := L.length ≤ 64 ∧ (∀ x ∈ L, patL x.pat = true ∧ 0 ≤ x.id ∧ x.ms.all tokL = true) ∧ L.Pairwise (fun x y => x.pat = y.pat → clash x.ms y.ms = false)
theorem Taken.nil : Taken [] := ⟨by simp, by simp, List.Pairwise.nil⟩
theorem any_false {α : Type} {l : List α} {p : α → Bool} (h : l.any p = false) : ∀ x ∈ l, p x = false := fun x hx => by
  have := List.any_eq_false.1 h x hx
  simpa using this
theorem Taken.add {L : List Lt} {x : Lt} (h : Taken L) (hc : addC L x = 0) : Taken (L ++ [x]) := by
  obtain ⟨c1, c2, c3, c4, c5⟩ := addC_ok hc
  refine ⟨by simp; omega, fun y hy => ?_, ?_⟩
  · rcases List.mem_append.1 hy with hy | hy
    · exact h.2.1 y hy
    · rw [List.mem_singleton] at hy; subst hy; exact ⟨c1, c2, c3⟩
  · refine List.pairwise_append.2 ⟨h.2.2, by simp, fun a ha b hb hab => ?_⟩
    rw [List.mem_singleton] at hb
    subst hb
    have hs : a ∈ sel L (keyL b.pat) := List.mem_filter.2 ⟨ha, by rw [hab]; simp⟩
    rw [clash_comm]
    exact any_false c5 a hs
theorem addC_taken {L : List Lt} {x : Lt} (h : Taken (L ++ [x])) : addC L x = 0 := by
  obtain ⟨h1, h2, h3⟩ := h
  obtain ⟨a1, a2, a3⟩ := h2 x (by simp)
  unfold addC
  rw [if_pos (by rw [a1, a3]; simp [a2]), if_neg (by simp at h1; omega), if_neg]
  intro hany
  obtain ⟨y, hy, hc⟩ := List.any_eq_true.1 hany
  unfold sel at hy
  obtain ⟨hy1, hy2⟩ := List.mem_filter.1 hy
  have hp : y.pat = x.pat := keyL_inj (by simpa using hy2)
  have := (List.pairwise_append.1 h3).2.2 y hy1 x (by simp) hp
  rw [clash_comm, this] at hc
  cases hc
theorem Taken.pre {L M : List Lt} (h : Taken (L ++ M)) : Taken L :=
  ⟨by have := h.1; simp at this; omega, fun x hx => h.2.1 x (by simp [hx]), (List.pairwise_append.1 h.2.2).1⟩
theorem Taken.rev {L : List Lt} (h : Taken L) : Taken L.reverse :=
  ⟨by simpa using h.1, fun x hx => h.2.1 x (by simpa using hx), by
    rw [List.pairwise_reverse]
    exact h.2.2.imp (fun h e => by rw [clash_comm]; exact h e.symm)⟩

theorem sel_rev (L : List Lt) (k : Bool × Txt) : sel L.reverse k = (sel L k).reverse := by unfold sel; rw [List.filter_reverse]
theorem hasW_rev (L : List Lt) (q : Txt) : hasW L.reverse q = hasW L q := by unfold hasW; rw [sel_rev, List.isEmpty_reverse]
theorem downP_rev (L : List Lt) (path : Txt) : ∀ n, downP L.reverse path n = downP L path n
  | 0 => rfl
  | n + 1 => by rw [downP, downP, hasW_rev, downP_rev L path n]
theorem findP_rev (L : List Lt) (path : Txt) : findP L.reverse path = findP L path := by
  unfold findP
  rw [sel_rev, List.isEmpty_reverse, downP_rev]

/-- Does a route serve a method? -/
def serves (m : Txt) (x : Lt) : Bool := x.ms.isEmpty || x.ms.contains m
theorem ofL_find (L : List Lt) (m : Txt) : ofL L m = (L.find? (serves m)).map (·.id) := by
  induction L with
  | nil => rfl
  | cons x r ih =>
    rw [ofL, List.find?_cons]
    unfold serves at ih ⊢
    cases h : (x.ms.isEmpty || x.ms.contains m)
    · simpa using ih
    · simp
theorem serves_clash {m : Txt} {x y : Lt} (hx : serves m x = true) (hy : serves m y = true) : clash x.ms y.ms = true := by
  unfold serves at hx hy
  unfold clash
  simp only [Bool.or_eq_true, List.isEmpty_iff, List.contains_iff_mem, List.any_eq_true] at hx hy ⊢
  rcases hx with hx | hx
  · exact Or.inl (Or.inl hx)
  · rcases hy with hy | hy
    · exact Or.inl (Or.inr hy)
    · exact Or.inr ⟨m, hx, hy⟩
/-- Of routes of one key at most one serves a method. -/
theorem find_rev {L : List Lt} {m : Txt} (h : L.Pairwise (fun x y => clash x.ms y.ms = false)) : L.reverse.find? (serves m) = L.find? (serves m) := by
  induction L with
  | nil => rfl
  | cons x r ih =>
    obtain ⟨h1, h2⟩ := List.pairwise_cons.1 h
    rw [List.reverse_cons, List.find?_append, ih h2, List.find?_cons]
    cases hx : serves m x
    · simp [hx]
    · have : r.find? (serves m) = none := by
        rw [List.find?_eq_none]
        intro y hy hs
        have := h1 y hy
        rw [serves_clash hx hs] at this
        cases this
      rw [this]
      simp [hx]
theorem sel_apart {L : List Lt} (h : Taken L) (k : Bool × Txt) : (sel L k).Pairwise (fun x y => clash x.ms y.ms = false) := by
  have h1 : (sel L k).Pairwise (fun x y => x.pat = y.pat → clash x.ms y.ms = false) := h.2.2.filter _
  have h2 : ∀ x ∈ sel L k, keyL x.pat = k := fun x hx => by simpa using (List.mem_filter.1 hx).2
  refine List.Pairwise.imp_of_mem (fun {a b} ha hb hab => hab (keyL_inj ?_)) h1
  rw [h2 a ha, h2 b hb]
theorem pickL_rev {L : List Lt} (h : L.Pairwise (fun x y => clash x.ms y.ms = false)) (m : Txt) : pickL L.reverse m = pickL L m := by
  unfold pickL
  rw [ofL_find, ofL_find, ofL_find, ofL_find, find_rev h, find_rev h]
theorem msL_mem (L : List Lt) (z : Txt) : z ∈ msL L ↔ ∃ x ∈ L, z ∈ x.ms := by unfold msL; rw [List.mem_flatMap]
theorem allow_rev (L : List Lt) : allowP L.reverse = allowP L := by
  have hm : ∀ z, z ∈ msL L.reverse ↔ z ∈ msL L := fun z => by rw [msL_mem, msL_mem]; simp
  have hw : ∀ z, z ∈ withHead (msL L.reverse) ↔ z ∈ withHead (msL L) := fun z => by
    unfold withHead
    rw [contains_iff' hm GET]
    split
    · rw [List.mem_append, List.mem_append, hm]
    · exact hm z
  obtain ⟨c1, c2⟩ := compact_asc (sortL_le (withHead (msL L.reverse)))
  obtain ⟨d1, d2⟩ := compact_asc (sortL_le (withHead (msL L)))
  exact asc_ext c1 d1 (fun z => by
    show z ∈ allowP L.reverse ↔ z ∈ allowP L
    unfold allowP
    rw [c2, d2, sortL_mem, sortL_mem, hw])
theorem match_rev {L : List Lt} (h : Taken L) (m path : Txt) : matchL L.reverse m path = matchL L m path := by
  unfold matchL
  rw [findP_rev]
  cases findP L path with
  | none => rfl
  | some kr =>
    obtain ⟨k, rest⟩ := kr
    simp only [sel_rev]
    rw [pickL_rev (sel_apart h k), allow_rev]

/-! The longest pattern. -/
def rep (m : Nat) : Txt := (List.replicate m ([97, 47] : Txt)).flatten
theorem rep_zero : rep 0 = [] := rfl
theorem rep_succ (m : Nat) : rep (m + 1) = 97 :: 47 :: rep m := by simp [rep, List.replicate_succ]
theorem rep_snoc (m : Nat) : rep (m + 1) = rep m ++ [97, 47] := by simp [rep, List.replicate_succ']
theorem rep_len (m : Nat) : (rep m).length = 2 * m := by
  induction m with
  | zero => rfl
  | succ m ih => rw [rep_succ]; simp [ih]; omega
theorem rep_add (a b : Nat) : rep (a + b) = rep a ++ rep b := by
  unfold rep
  rw [← List.flatten_append, List.replicate_append_replicate]
theorem cuts_rep (m : Nat) : cutsL 47 (rep m) = List.replicate m [97] ++ [[]] := by
  induction m with
  | zero => rfl
  | succ m ih =>
    rw [rep_succ, List.replicate_succ, List.cons_append, ← ih]
    rfl
theorem fold_a (m : Nat) (l : List Txt) (r : List Txt) : foldC (some l) (List.replicate m [97] ++ r) = foldC (some (l ++ List.replicate m [97])) r := by
  induction m generalizing l with
  | zero => simp
  | succ m ih =>
    rw [List.replicate_succ, List.cons_append, foldC_cons, stepC_push _ _ (by decide) (by decide) (by decide), ih]
    congr 2
    simp
theorem out_a (m : Nat) : outC (List.replicate m [97]) ++ [47] = 47 :: rep m := by
  induction m with
  | zero => rfl
  | succ m ih =>
    rw [List.replicate_succ, outC, rep_succ, List.cons_append, List.append_assoc, ih]; rfl
theorem clean_rep (m : Nat) : cleanL (47 :: rep m) = some (47 :: rep m) := by
  rw [cleanL_slash, cuts_rep, fold_a, foldC_cons, stepC_skip _ _ (Or.inl rfl)]
  rw [List.nil_append]
  have : ((List.replicate m ([97] : Txt)) ++ [[]]).getLastD [] = [] := by simp
  rw [this]
  show some (endC [] (outC (List.replicate m [97]))) = _
  rw [endC, if_pos (Or.inl rfl), out_a]

def dpat (i : Nat) : Lt := ⟨47 :: rep (i + 1) ++ [42], i, []⟩
def dpats (n : Nat) : List Lt := (List.range n).map dpat
theorem dpats_succ (n : Nat) : dpats (n + 1) = dpats n ++ [dpat n] := by simp [dpats, List.range_succ]
theorem dpats_len (n : Nat) : (dpats n).length = n := by simp [dpats]
theorem dpat_key (i : Nat) : keyL (dpat i).pat = (true, 47 :: rep (i + 1)) := by
  have hw : wideL (47 :: rep (i + 1) ++ [42]) = true := (wide_iff _).2 ⟨47 :: (rep i ++ [97]), by rw [rep_snoc]; simp⟩
  show keyL (47 :: rep (i + 1) ++ [42]) = _
  rw [key_wide hw, List.dropLast_concat]
theorem rep_inj {a b : Nat} (h : rep a = rep b) : a = b := by
  have := congrArg List.length h
  rw [rep_len, rep_len] at this
  omega
theorem sel_dpats (n i : Nat) (h : n ≤ i) : sel (dpats n) (true, 47 :: rep (i + 1)) = [] := by
  unfold sel
  rw [List.filter_eq_nil_iff]
  intro x hx
  obtain ⟨j, hj, rfl⟩ := List.mem_map.1 hx
  rw [List.mem_range] at hj
  rw [dpat_key]
  simp only [beq_iff_eq, Prod.mk.injEq, true_and, List.cons.injEq]
  intro e
  have := rep_inj e
  omega
theorem add_dpats (n : Nat) (h : n < 40) : addC (dpats n) (dpat n) = 0 := by
  unfold addC
  rw [patL_ok, okP, dpat_key, sel_dpats n n (Nat.le_refl _)]
  simp only [clean_rep]
  rw [dpats_len, if_pos, if_neg (by omega)]
  · rfl
  · simp [dpat, rep_len]; omega
theorem adds_dpats (n : Nat) (h : n < 40) : addS (dpats n) (dpat n) = dpats (n + 1) := by
  unfold addS
  rw [if_pos (add_dpats n h), dpats_succ]

def dpath (t : Nat) : Txt := 47 :: rep t ++ [122]
theorem dpath_take {t j : Nat} (h : j ≤ t) : (dpath t).take (2 * j + 1) = 47 :: rep j := by
  unfold dpath
  obtain ⟨d, rfl⟩ := Nat.le.dest h
  rw [rep_add, ← List.cons_append, List.append_assoc]
  have : (47 :: rep j).length = 2 * j + 1 := by simp [rep_len]
  rw [← this, List.take_left']
  rfl
theorem dpath_drop {t j : Nat} (h : j ≤ t) : (dpath t).drop (2 * j + 1) = rep (t - j) ++ [122] := by
  unfold dpath
  obtain ⟨d, rfl⟩ := Nat.le.dest h
  rw [rep_add, ← List.cons_append, List.append_assoc]
  have : (47 :: rep j).length = 2 * j + 1 := by simp [rep_len]
  rw [← this, List.drop_left', Nat.add_sub_cancel_left]
  rfl
theorem dpath_at {t j : Nat} (h : j ≤ t) : (dpath t)[2 * j]? = some 47 := by
  have h1 : (dpath t).take (2 * j + 1) = 47 :: rep j := dpath_take h
  have h2 : ((dpath t).take (2 * j + 1))[2 * j]? = (dpath t)[2 * j]? := by rw [List.getElem?_take, if_pos (by omega)]
  rw [← h2, h1]
  cases j with
  | zero => rfl
  | succ j =>
    rw [rep_snoc, show 2 * (j + 1) = (2 * j + 1) + 1 by omega, List.getElem?_cons_succ, List.getElem?_append_right (by rw [rep_len]; omega), rep_len]
    simp
theorem dWd (n t i : Nat) : Wd (dpats n) (dpath t) i ↔ ∃ j, j < n ∧ j + 1 ≤ t ∧ i = 2 * (j + 1) := by
  constructor
  · rintro ⟨h1, x, hx, e⟩
    obtain ⟨j, hj, rfl⟩ := List.mem_map.1 hx
    rw [List.mem_range] at hj
    have hi : i < (dpath t).length := (List.getElem?_eq_some_iff.1 h1).1
    have hlen := congrArg List.length e
    have hdl : (dpath t).length = 2 * t + 2 := by simp [dpath, rep_len]
    rw [len_of_at h1] at hlen
    have hpl : (dpat j).pat.length = 2 * (j + 1) + 2 := by simp [dpat, rep_len]
    rw [hpl] at hlen
    have hi2 : i = 2 * (j + 1) := by omega
    refine ⟨j, hj, ?_, hi2⟩
    by_cases hle : j + 1 ≤ t
    · exact hle
    · omega
  · rintro ⟨j, hj, hle, rfl⟩
    refine ⟨dpath_at hle, dpat j, List.mem_map.2 ⟨j, List.mem_range.2 hj, rfl⟩, ?_⟩
    rw [dpath_take hle]; rfl
theorem sel_plain_d (n t : Nat) : (sel (dpats n) (false, dpath t)) = [] := by
  unfold sel
  rw [List.filter_eq_nil_iff]
  intro x hx
  obtain ⟨j, hj, rfl⟩ := List.mem_map.1 hx
  rw [dpat_key]
  simp
theorem down_max {L : List Lt} {path : Txt} {i : Nat} (h : Wd L path i) (hm : ∀ j, Wd L path j → j ≤ i) : downP L path path.length = some i := by
  have hi : i < path.length := (List.getElem?_eq_some_iff.1 h.1).1
  cases hd : downP L path path.length with
  | none => exact absurd h (downP_none hd i hi)
  | some k =>
    obtain ⟨h1, h2, h3⟩ := downP_some hd
    have := hm k h2
    have := h3 i hi h
    rw [show k = i by omega]
theorem sel_one_d {n j : Nat} (h : j < n) : sel (dpats n) (true, 47 :: rep (j + 1)) = [dpat j] := by
  induction n with
  | zero => omega
  | succ n ih =>
    rw [dpats_succ, sel_add, dpat_key]
    by_cases e : j = n
    · subst e
      rw [if_pos rfl, sel_dpats j j (Nat.le_refl _)]; rfl
    · rw [if_neg (fun e' => e (by have := (Prod.mk.inj e').2; injection this with _ h2; have := rep_inj h2; omega)), ih (by omega)]
theorem match_deep {n t : Nat} (m : Txt) (hn : 0 < n) (ht : 0 < t) : matchL (dpats n) m (dpath t) = (((min n t : Nat) : Int) - 1, rep (t - min n t) ++ [122], [], 200) := by
  obtain ⟨k, hk⟩ : ∃ k, min n t = k + 1 := ⟨min n t - 1, by omega⟩
  have hw : Wd (dpats n) (dpath t) (2 * (k + 1)) := (dWd n t _).2 ⟨k, by omega, by omega, rfl⟩
  have hm : ∀ j, Wd (dpats n) (dpath t) j → j ≤ 2 * (k + 1) := fun j hj => by
    obtain ⟨i, h1, h2, rfl⟩ := (dWd n t j).1 hj
    omega
  have hd := down_max hw hm
  have hf : findP (dpats n) (dpath t) = some ((true, 47 :: rep (k + 1)), rep (t - (k + 1)) ++ [122]) := by
    unfold findP
    rw [sel_plain_d, if_pos (show ([] : List Lt).isEmpty = true from rfl), hd]
    show some ((true, (dpath t).take (2 * (k + 1) + 1)), (dpath t).drop (2 * (k + 1) + 1)) = _
    rw [dpath_take (by omega), dpath_drop (by omega)]
  rw [hk, match_some (i := (k : Int)) hf]
  · congr 1; omega
  · rw [sel_one_d (by omega)]; rfl
theorem match_deep0 {n t : Nat} (m : Txt) (h : n = 0 ∨ t = 0) : matchL (dpats n) m (dpath t) = (0, [], [], 404) := by
  refine match_none ?_
  unfold findP
  rw [sel_plain_d, if_pos (show ([] : List Lt).isEmpty = true from rfl)]
  cases hd : downP (dpats n) (dpath t) (dpath t).length with
  | none => rfl
  | some i =>
    obtain ⟨j, h1, h2, _⟩ := (dWd n t i).1 (downP_some hd).2.1
    omega
end Go.Proofs.YtiglfbimijnpcaaGreatDoor

