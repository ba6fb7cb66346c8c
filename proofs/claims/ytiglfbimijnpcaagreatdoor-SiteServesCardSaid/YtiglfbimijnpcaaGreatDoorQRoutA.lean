/- Routes: as words over bytes. No program in sight. -/
import Derived.Test.YtiglfbimijnpcaaGreatDoorQTargA
import Derived.Lib.SlicesCompact
import Derived.Sort.KeysCollected
namespace Go.Proofs.YtiglfbimijnpcaaGreatDoor

/-- A pattern that was laid, what it is for, its methods. -/
structure Lt where
  pat : Txt
  id : Int
  ms : List Txt

def wideL (s : Txt) : Bool := decide (2 ≤ s.length) && (s.drop (s.length - 2) == [47, 42])
def keyL (s : Txt) : Bool × Txt := if wideL s then (true, s.dropLast) else (false, s)
def patOf (k : Bool × Txt) : Txt := if k.1 then k.2 ++ [42] else k.2
def plainL (s : Txt) : Bool := decide (s.length ≤ 200) && (cleanL s == some s) && !wideL s
def patL (s : Txt) : Bool := if wideL s && decide (s.length ≤ 201) then plainL s.dropLast else plainL s
def okP (s : Txt) : Bool := cleanL (keyL s).2 == some (keyL s).2 && decide ((keyL s).2.length ≤ 200)

theorem wide_iff (s : Txt) : wideL s = true ↔ ∃ q, s = q ++ [47, 42] := by
  unfold wideL
  simp only [Bool.and_eq_true, decide_eq_true_eq, beq_iff_eq]
  constructor
  · rintro ⟨h, e⟩
    exact ⟨s.take (s.length - 2), by rw [← e, List.take_append_drop]⟩
  · rintro ⟨q, rfl⟩
    simp
theorem wide_drop {q : Txt} : (q ++ [47, 42] : Txt).dropLast = q ++ [47] := by
  rw [show (q ++ [47, 42] : Txt) = (q ++ [47]) ++ [42] by simp, List.dropLast_concat]
theorem wide_slash (q : Txt) : wideL (q ++ [47]) = false := by
  rw [Bool.eq_false_iff]
  intro h
  obtain ⟨r, hr⟩ := (wide_iff _).1 h
  rw [show (r ++ [47, 42] : Txt) = (r ++ [47]) ++ [42] by simp] at hr
  have := (List.append_inj' hr rfl).2
  simp at this
theorem key_wide {s : Txt} (h : wideL s = true) : keyL s = (true, s.dropLast) := by simp [keyL, h]
theorem key_plain {s : Txt} (h : wideL s = false) : keyL s = (false, s) := by simp [keyL, h]
theorem patOf_key (s : Txt) : patOf (keyL s) = s := by
  cases h : wideL s
  · rw [key_plain h]; rfl
  · obtain ⟨q, rfl⟩ := (wide_iff s).1 h
    rw [key_wide h, wide_drop]
    simp [patOf]
theorem keyL_inj {a b : Txt} (h : keyL a = keyL b) : a = b := by rw [← patOf_key a, h, patOf_key]
theorem patL_ok (s : Txt) : patL s = okP s := by
  unfold patL okP plainL
  cases h : wideL s
  · rw [key_plain h]
    simp [Bool.and_comm]
  · rw [key_wide h]
    obtain ⟨q, rfl⟩ := (wide_iff s).1 h
    rw [wide_drop, wide_slash]
    simp only [List.length_append, List.length_cons, List.length_nil]
    by_cases h1 : q.length + 2 ≤ 201
    · have h2 : q.length + 1 ≤ 200 := by omega
      simp [h1, h2]
    · have h2 : ¬ q.length + 1 ≤ 200 := by omega
      have h3 : ¬ q.length + 2 ≤ 200 := by omega
      simp [h1, h2, h3]

/-- Do two lists of methods meet? None is all. -/
def clash (ms xs : List Txt) : Bool := ms.isEmpty || xs.isEmpty || ms.any (fun m => xs.contains m)
def sel (L : List Lt) (k : Bool × Txt) : List Lt := L.filter (fun x => keyL x.pat == k)
def addC (L : List Lt) (x : Lt) : Int :=
  if (patL x.pat && decide (0 ≤ x.id) && x.ms.all tokL) = true then (if 64 ≤ L.length then 3 else if (sel L (keyL x.pat)).any (fun y => clash x.ms y.ms) = true then 11 else 0) else 1
def addS (L : List Lt) (x : Lt) : List Lt := if addC L x = 0 then L ++ [x] else L

theorem key_beq (a b : Txt) : (keyL a == keyL b) = (a == b) := by
  rw [Bool.eq_iff_iff, beq_iff_eq, beq_iff_eq]
  exact ⟨keyL_inj, fun h => h ▸ rfl⟩
theorem sel_pat (L : List Lt) (p : Txt) : sel L (keyL p) = L.filter (fun x => x.pat == p) := by
  unfold sel
  congr 1
  funext x
  exact key_beq _ _
theorem sel_add (L : List Lt) (x : Lt) (k : Bool × Txt) : sel (L ++ [x]) k = if keyL x.pat = k then sel L k ++ [x] else sel L k := by
  unfold sel
  rw [List.filter_append]
  by_cases h : keyL x.pat = k <;> simp [h]
theorem addC_ok {L : List Lt} {x : Lt} (h : addC L x = 0) : patL x.pat = true ∧ 0 ≤ x.id ∧ x.ms.all tokL = true ∧ L.length < 64 ∧ (sel L (keyL x.pat)).any (fun y => clash x.ms y.ms) = false := by
  unfold addC at h
  split at h
  · rename_i g
    simp only [Bool.and_eq_true, decide_eq_true_eq] at g
    split at h
    · cases h
    · split at h
      · cases h
      · rename_i g2 g3
        exact ⟨g.1.1, g.1.2, g.2, by omega, by simpa using g3⟩
  · cases h

/-! What a path is for. -/
def hasW (L : List Lt) (q : Txt) : Bool := !(sel L (true, q)).isEmpty
def downP (L : List Lt) (path : Txt) : Nat → Option Nat
  | 0 => none
  | i + 1 => if path[i]? = some 47 ∧ hasW L (path.take (i + 1)) = true then some i else downP L path i
def findP (L : List Lt) (path : Txt) : Option ((Bool × Txt) × Txt) :=
  if (sel L (false, path)).isEmpty then (downP L path path.length).map (fun i => ((true, path.take (i + 1)), path.drop (i + 1))) else some ((false, path), [])

/-- Does a wide pattern begin a path? -/
def begins (p path : Txt) : Bool := wideL p && (path.take (p.length - 1) == p.dropLast)
def findA (path : Txt) : Txt → Bool → List Lt → Txt × Bool
  | best, ok, [] => (best, ok)
  | best, ok, x :: r => if (!wideL x.pat && x.pat == path) = true then (x.pat, true) else if (begins x.pat path && decide (best.length < x.pat.length)) = true then findA path x.pat true r else findA path best ok r

theorem begins_iff (p path : Txt) : begins p path = true ↔ ∃ i, path[i]? = some 47 ∧ p = path.take (i + 1) ++ [42] := by
  unfold begins
  simp only [Bool.and_eq_true, beq_iff_eq]
  constructor
  · rintro ⟨h, e⟩
    obtain ⟨q, rfl⟩ := (wide_iff p).1 h
    rw [wide_drop] at e
    have hl : (q ++ [47, 42] : Txt).length - 1 = q.length + 1 := by simp
    rw [hl] at e
    refine ⟨q.length, ?_, ?_⟩
    · have : (path.take (q.length + 1))[q.length]? = some 47 := by rw [e]; simp
      rw [List.getElem?_take, if_pos (by omega)] at this
      exact this
    · rw [e]; simp
  · rintro ⟨i, hi, rfl⟩
    have hlt : i < path.length := (List.getElem?_eq_some_iff.1 hi).1
    have hg : path[i] = 47 := (List.getElem?_eq_some_iff.1 hi).2
    refine ⟨(wide_iff _).2 ⟨path.take i, ?_⟩, ?_⟩
    · rw [List.take_succ_eq_append_getElem hlt, hg]; simp
    · rw [List.dropLast_concat]
      congr 1
      simp; omega

/-- A pattern of M for all that begins with the first i + 1 bytes of path. -/
def Wd (M : List Lt) (path : Txt) (i : Nat) : Prop := path[i]? = some 47 ∧ ∃ x ∈ M, x.pat = path.take (i + 1) ++ [42]
def Best (M : List Lt) (path best : Txt) (ok : Bool) : Prop :=
  (ok = false ∧ best = [] ∧ ∀ i, ¬ Wd M path i) ∨ (ok = true ∧ ∃ i, Wd M path i ∧ best = path.take (i + 1) ++ [42] ∧ ∀ j, Wd M path j → j ≤ i)

theorem Wd_concat {M : List Lt} {path : Txt} {x : Lt} {i : Nat} : Wd (M ++ [x]) path i ↔ Wd M path i ∨ (path[i]? = some 47 ∧ x.pat = path.take (i + 1) ++ [42]) := by
  unfold Wd
  constructor
  · rintro ⟨h, y, hy, e⟩
    rcases List.mem_append.1 hy with hy | hy
    · exact Or.inl ⟨h, y, hy, e⟩
    · rw [List.mem_singleton] at hy
      subst hy
      exact Or.inr ⟨h, e⟩
  · rintro (⟨h, y, hy, e⟩ | ⟨h, e⟩)
    · exact ⟨h, y, by simp [hy], e⟩
    · exact ⟨h, x, by simp, e⟩
theorem len_of_at {path : Txt} {i : Nat} (h : path[i]? = some 47) : (path.take (i + 1) ++ [42]).length = i + 2 := by
  have := (List.getElem?_eq_some_iff.1 h).1
  simp; omega

theorem Best_step {M : List Lt} {path best : Txt} {ok : Bool} (x : Lt) (h : Best M path best ok) :
    Best (M ++ [x]) path (if (begins x.pat path && decide (best.length < x.pat.length)) = true then x.pat else best) (if (begins x.pat path && decide (best.length < x.pat.length)) = true then true else ok) := by
  by_cases hb : begins x.pat path = true
  · obtain ⟨i, hi, hp⟩ := (begins_iff _ _).1 hb
    have hl := len_of_at hi
    rw [← hp] at hl
    by_cases hlt : best.length < x.pat.length
    · rw [if_pos (by simp [hb, hlt]), if_pos (by simp [hb, hlt])]
      refine Or.inr ⟨rfl, i, Wd_concat.2 (Or.inr ⟨hi, hp⟩), hp, fun j hj => ?_⟩
      rcases Wd_concat.1 hj with hj | ⟨hj, e⟩
      · rcases h with ⟨_, _, h3⟩ | ⟨_, i0, h1, h2, h3⟩
        · exact absurd hj (h3 j)
        · have := h3 j hj
          have e0 := len_of_at h1.1
          rw [← h2] at e0
          omega
      · have := len_of_at hj
        rw [← e] at this
        omega
    · rw [if_neg (by simp [hlt]), if_neg (by simp [hlt])]
      rcases h with ⟨_, h2, _⟩ | ⟨h0, i0, h1, h2, h3⟩
      · subst h2; rw [List.length_nil] at hlt; omega
      · refine Or.inr ⟨h0, i0, Wd_concat.2 (Or.inl h1), h2, fun j hj => ?_⟩
        rcases Wd_concat.1 hj with hj | ⟨hj, e⟩
        · exact h3 j hj
        · have a1 := len_of_at hj
          rw [← e] at a1
          have e0 := len_of_at h1.1
          rw [← h2] at e0
          omega
  · rw [if_neg (by simp [hb]), if_neg (by simp [hb])]
    have hno : ∀ i, ¬ (path[i]? = some 47 ∧ x.pat = path.take (i + 1) ++ [42]) := fun i hi => hb ((begins_iff _ _).2 ⟨i, hi.1, hi.2⟩)
    rcases h with ⟨h1, h2, h3⟩ | ⟨h0, i0, h1, h2, h3⟩
    · refine Or.inl ⟨h1, h2, fun i hi => ?_⟩
      rcases Wd_concat.1 hi with hi | hi
      · exact h3 i hi
      · exact hno i hi
    · refine Or.inr ⟨h0, i0, Wd_concat.2 (Or.inl h1), h2, fun j hj => ?_⟩
      rcases Wd_concat.1 hj with hj | hj
      · exact h3 j hj
      · exact absurd hj (hno j)

theorem findA_best (path : Txt) : ∀ (r M : List Lt) (best : Txt) (ok : Bool), Best M path best ok → (∀ x ∈ r, (!wideL x.pat && x.pat == path) = false) → Best (M ++ r) path (findA path best ok r).1 (findA path best ok r).2
  | [], M, best, ok, h, _ => by rw [List.append_nil]; exact h
  | x :: r, M, best, ok, h, hn => by
    have h1 := Best_step x h
    have hx := hn x (by simp)
    rw [findA, if_neg (by simp [hx])]
    rw [show M ++ x :: r = (M ++ [x]) ++ r by simp]
    by_cases hc : (begins x.pat path && decide (best.length < x.pat.length)) = true
    · rw [if_pos hc]
      rw [if_pos hc, if_pos hc] at h1
      exact findA_best path r (M ++ [x]) _ _ h1 (fun y hy => hn y (by simp [hy]))
    · rw [if_neg hc]
      rw [if_neg hc, if_neg hc] at h1
      exact findA_best path r (M ++ [x]) _ _ h1 (fun y hy => hn y (by simp [hy]))
theorem findA_exact (path : Txt) : ∀ (r : List Lt) (best : Txt) (ok : Bool) (x : Lt), x ∈ r → (!wideL x.pat && x.pat == path) = true → findA path best ok r = (path, true)
  | [], _, _, x, hx, _ => by cases hx
  | y :: r, best, ok, x, hx, hp => by
    rw [findA]
    by_cases hy : (!wideL y.pat && y.pat == path) = true
    · rw [if_pos hy]
      simp only [Bool.and_eq_true, beq_iff_eq] at hy
      rw [hy.2]
    · rw [if_neg hy]
      have hx' : x ∈ r := by
        rcases List.mem_cons.1 hx with rfl | h
        · exact absurd hp hy
        · exact h
      split
      · exact findA_exact path r _ _ x hx' hp
      · exact findA_exact path r _ _ x hx' hp

theorem hasW_iff (L : List Lt) (path : Txt) (i : Nat) (h : path[i]? = some 47) : hasW L (path.take (i + 1)) = true ↔ Wd L path i := by
  have hk : ∀ x : Lt, keyL x.pat = (true, path.take (i + 1)) ↔ x.pat = path.take (i + 1) ++ [42] := fun x => by
    constructor
    · intro e
      rw [← patOf_key x.pat, e]; rfl
    · intro e
      have hb : begins x.pat path = true := (begins_iff _ _).2 ⟨i, h, e⟩
      unfold begins at hb
      rw [Bool.and_eq_true] at hb
      rw [key_wide hb.1, e, List.dropLast_concat]
  unfold hasW sel Wd
  simp only [Bool.not_eq_true', List.isEmpty_eq_false_iff, ne_eq, List.filter_eq_nil_iff, beq_iff_eq, Classical.not_forall, Classical.not_not]
  constructor
  · rintro ⟨x, hx, e⟩
    exact ⟨h, x, hx, (hk x).1 e⟩
  · rintro ⟨_, x, hx, e⟩
    exact ⟨x, hx, (hk x).2 e⟩
theorem downP_some {L : List Lt} {path : Txt} {n i : Nat} (h : downP L path n = some i) : i < n ∧ Wd L path i ∧ ∀ j, j < n → Wd L path j → j ≤ i := by
  induction n with
  | zero => cases h
  | succ n ih =>
    rw [downP] at h
    split at h
    · rename_i g
      injection h with h
      subst h
      exact ⟨by omega, (hasW_iff L path n g.1).1 g.2, fun j hj _ => by omega⟩
    · rename_i g
      obtain ⟨h1, h2, h3⟩ := ih h
      refine ⟨by omega, h2, fun j hj hw => ?_⟩
      by_cases e : j = n
      · subst e
        exact absurd ⟨hw.1, (hasW_iff L path j hw.1).2 hw⟩ g
      · exact h3 j (by omega) hw
theorem downP_none {L : List Lt} {path : Txt} {n : Nat} (h : downP L path n = none) : ∀ j, j < n → ¬ Wd L path j := by
  induction n with
  | zero => intro j hj; omega
  | succ n ih =>
    rw [downP] at h
    split at h
    · cases h
    · rename_i g
      intro j hj hw
      by_cases e : j = n
      · subst e
        exact g ⟨hw.1, (hasW_iff L path j hw.1).2 hw⟩
      · exact ih h j (by omega) hw

theorem sel_false {L : List Lt} {path : Txt} : (sel L (false, path)).isEmpty = false ↔ ∃ x ∈ L, (!wideL x.pat && x.pat == path) = true := by
  unfold sel
  simp only [List.isEmpty_eq_false_iff, ne_eq, List.filter_eq_nil_iff, beq_iff_eq, Classical.not_forall, Classical.not_not, Bool.and_eq_true, Bool.not_eq_true']
  constructor
  · rintro ⟨x, hx, e⟩
    refine ⟨x, hx, ?_⟩
    cases hw : wideL x.pat
    · rw [key_plain hw] at e
      exact ⟨rfl, (Prod.mk.inj e).2⟩
    · rw [key_wide hw] at e
      simp at e
  · rintro ⟨x, hx, hw, e⟩
    exact ⟨x, hx, by rw [key_plain hw, e]⟩

/-- The program's road and the document's come to the same pattern. -/
theorem find_same (L : List Lt) (path : Txt) :
    (findP L path = none ∧ (findA path [] false L).2 = false) ∨
    (∃ k rest, findP L path = some (k, rest) ∧ findA path [] false L = (patOf k, true) ∧ (sel L k) = L.filter (fun x => x.pat == patOf k) ∧ sel L k ≠ [] ∧ rest = (if wideL (patOf k) then path.drop ((patOf k).length - 1) else [])) := by
  have hsel : ∀ k, sel L k ≠ [] → sel L k = L.filter (fun x => x.pat == patOf k) ∧ keyL (patOf k) = k := fun k hk => by
    obtain ⟨x, hx⟩ := List.exists_mem_of_ne_nil _ hk
    have hkx : keyL x.pat = k := by
      have := (List.mem_filter.1 hx).2
      simpa using this
    have hp : patOf k = x.pat := by rw [← hkx, patOf_key]
    rw [hp, ← sel_pat, hkx]
    exact ⟨rfl, rfl⟩
  unfold findP
  cases he : (sel L (false, path)).isEmpty
  · have hne : sel L (false, path) ≠ [] := by simpa using he
    obtain ⟨h1, h2⟩ := hsel _ hne
    obtain ⟨x, hx, hp⟩ := sel_false.1 he
    right
    refine ⟨(false, path), [], by simp, ?_, h1, hne, ?_⟩
    · exact findA_exact path L [] false x hx hp
    · have hw : wideL path = false := by
        simp only [Bool.and_eq_true, Bool.not_eq_true', beq_iff_eq] at hp
        rw [← hp.2]; exact hp.1
      simp [patOf, hw]
  · have hn : ∀ x ∈ L, (!wideL x.pat && x.pat == path) = false := fun x hx => by
      cases hq : (!wideL x.pat && x.pat == path)
      · rfl
      · rw [sel_false.2 ⟨x, hx, hq⟩] at he
        cases he
    have hB := findA_best path L [] [] false (Or.inl ⟨rfl, rfl, fun i hi => by obtain ⟨_, x, hx, _⟩ := hi; cases hx⟩) hn
    rw [List.nil_append] at hB
    simp only [if_true]
    cases hd : downP L path path.length with
    | none =>
      have h0 := downP_none hd
      left
      refine ⟨rfl, ?_⟩
      rcases hB with ⟨h1, _, _⟩ | ⟨_, i, hi, _, _⟩
      · exact h1
      · exact absurd hi (h0 i (List.getElem?_eq_some_iff.1 hi.1).1)
    | some i =>
      obtain ⟨hi1, hi2, hi3⟩ := downP_some hd
      right
      have hW := (hasW_iff L path i hi2.1).2 hi2
      have hne : sel L (true, path.take (i + 1)) ≠ [] := by unfold hasW at hW; simpa using hW
      obtain ⟨h1, h2⟩ := hsel _ hne
      refine ⟨(true, path.take (i + 1)), path.drop (i + 1), rfl, ?_, h1, hne, ?_⟩
      · rcases hB with ⟨_, _, h3⟩ | ⟨g1, j, g2, g3, g4⟩
        · exact absurd hi2 (h3 i)
        · have e1 := hi3 j (List.getElem?_eq_some_iff.1 g2.1).1 g2
          have e2 := g4 i hi2
          obtain rfl : i = j := by omega
          exact Prod.ext g3 g1
      · have hb : begins (patOf (true, path.take (i + 1))) path = true := (begins_iff _ _).2 ⟨i, hi2.1, rfl⟩
        unfold begins at hb
        rw [Bool.and_eq_true] at hb
        rw [hb.1, if_pos rfl]
        have := len_of_at hi2.1
        have e : (patOf (true, path.take (i + 1))).length = i + 2 := this
        rw [e]
        rfl

/-! Methods. -/
def ofL : List Lt → Txt → Option Int
  | [], _ => none
  | x :: r, m => if (x.ms.isEmpty || x.ms.contains m) = true then some x.id else ofL r m
def ofT (p : Txt) : List Lt → Txt → Option Int
  | [], _ => none
  | x :: r, m => if (x.pat == p && (x.ms.isEmpty || x.ms.contains m)) = true then some x.id else ofT p r m
theorem of_same (p m : Txt) (L : List Lt) : ofT p L m = ofL (L.filter (fun x => x.pat == p)) m := by
  induction L with
  | nil => rfl
  | cons x r ih =>
    rw [ofT]
    cases hp : x.pat == p
    · rw [List.filter_cons_of_neg (by simp [hp])]
      simpa using ih
    · rw [List.filter_cons_of_pos (by simp [hp]), ofL]
      simp only [Bool.true_and]
      split
      · rfl
      · exact ih

def layL : List Txt → Txt → List Txt
  | [], s => [s]
  | x :: r, s => if x < s then x :: layL r s else if x = s then x :: r else s :: x :: r
def msL (L : List Lt) : List Txt := L.flatMap (·.ms)
def GET : Txt := [71, 69, 84]
def HEAD : Txt := [72, 69, 65, 68]
def withHead (l : List Txt) : List Txt := if l.contains GET then l ++ [HEAD] else l
def sortL (l : List Txt) : List Txt := l.mergeSort leB
def allowP (L : List Lt) : List Txt := Lib.compact (sortL (withHead (msL L)))
def allowT (L : List Lt) : List Txt := let l := (msL L).foldl layL []; if l.contains GET then layL l HEAD else l

abbrev Asc (l : List Txt) : Prop := l.Pairwise (· < ·)
theorem asc_ext : ∀ {a b : List Txt}, Asc a → Asc b → (∀ x, x ∈ a ↔ x ∈ b) → a = b
  | [], [], _, _, _ => rfl
  | [], y :: b, _, _, h => by have := (h y).2 (by simp); cases this
  | x :: a, [], _, _, h => by have := (h x).1 (by simp); cases this
  | x :: a, y :: b, ha, hb, h => by
    rw [Asc, List.pairwise_cons] at ha hb
    have exy : x = y := by
      rcases List.mem_cons.1 ((h x).1 (by simp)) with e | hx
      · exact e
      · rcases List.mem_cons.1 ((h y).2 (by simp)) with e | hy
        · exact e.symm
        · exact absurd (List.lt_trans (ha.1 y hy) (hb.1 x hx)) (List.lt_irrefl x)
    subst exy
    congr 1
    refine asc_ext ha.2 hb.2 fun z => ?_
    constructor
    · intro hz
      rcases List.mem_cons.1 ((h z).1 (by simp [hz])) with e | g
      · subst e; exact absurd (ha.1 z hz) (List.lt_irrefl z)
      · exact g
    · intro hz
      rcases List.mem_cons.1 ((h z).2 (by simp [hz])) with e | g
      · subst e; exact absurd (hb.1 z hz) (List.lt_irrefl z)
      · exact g
theorem layL_mem (l : List Txt) (s z : Txt) : z ∈ layL l s ↔ z ∈ l ∨ z = s := by
  induction l with
  | nil => simp [layL]
  | cons x r ih =>
    rw [layL]
    split
    · rw [List.mem_cons, ih, List.mem_cons, or_assoc]
    · split
      · rename_i _ e
        subst e
        simp only [List.mem_cons]
        constructor
        · intro h; exact Or.inl h
        · rintro (h | rfl)
          · exact h
          · exact Or.inl rfl
      · simp only [List.mem_cons]
        constructor
        · rintro (h | h)
          · exact Or.inr h
          · exact Or.inl h
        · rintro (h | h)
          · exact Or.inr h
          · exact Or.inl h
theorem lt_of_not {x s : Txt} (h1 : ¬ x < s) (h2 : ¬ x = s) : s < x := by
  rcases List.le_total s x with h | h
  · rcases List.le_iff_lt_or_eq.1 h with g | g
    · exact g
    · exact absurd g.symm h2
  · rcases List.le_iff_lt_or_eq.1 h with g | g
    · exact absurd g h1
    · exact absurd g h2
theorem layL_asc {l : List Txt} (h : Asc l) (s : Txt) : Asc (layL l s) := by
  induction l with
  | nil => simp [layL, Asc]
  | cons x r ih =>
    rw [Asc, List.pairwise_cons] at h
    rw [layL]
    split
    · rename_i g
      refine List.pairwise_cons.2 ⟨fun z hz => ?_, ih h.2⟩
      rcases (layL_mem r s z).1 hz with hz | rfl
      · exact h.1 z hz
      · exact g
    · split
      · exact List.pairwise_cons.2 h
      · rename_i g1 g2
        have hs := lt_of_not g1 g2
        refine List.pairwise_cons.2 ⟨fun z hz => ?_, List.pairwise_cons.2 h⟩
        rcases List.mem_cons.1 hz with rfl | hz
        · exact hs
        · exact List.lt_trans hs (h.1 z hz)
theorem lays_asc (m : List Txt) {l : List Txt} (h : Asc l) : Asc (m.foldl layL l) := by
  induction m generalizing l with
  | nil => exact h
  | cons s m ih => exact ih (layL_asc h s)
theorem lays_mem (m l : List Txt) (z : Txt) : z ∈ m.foldl layL l ↔ z ∈ l ∨ z ∈ m := by
  induction m generalizing l with
  | nil => simp
  | cons s m ih => rw [List.foldl_cons, ih, layL_mem, List.mem_cons, or_assoc]

theorem compact_upto (d : Array Txt) (hd : d.toList.Pairwise (· ≤ ·)) : ∀ m, m ≤ d.size → Asc (Lib.compactUpTo d m) ∧ (∀ z, z ∈ Lib.compactUpTo d m ↔ z ∈ d.toList.take m) := by
  intro m
  induction m with
  | zero => intro _; simp [Lib.compactUpTo, Asc]
  | succ m ih =>
    intro hm
    obtain ⟨h1, h2⟩ := ih (by omega)
    have hlt0 : m < d.size := by omega
    have hlt : m < d.toList.length := by simpa using hlt0
    have hget : d[m]! = d.toList[m] := by simp [getElem!_pos d m (by omega)]
    have htk : d.toList.take (m + 1) = d.toList.take m ++ [d.toList[m]] := List.take_succ_eq_append_getElem hlt
    rw [Lib.compactUpTo_succ]
    by_cases hk : Lib.keeps d m = true
    · rw [if_pos hk, htk, hget]
      refine ⟨List.pairwise_append.2 ⟨h1, by simp, fun a ha b hb => ?_⟩, fun z => by rw [List.mem_append, List.mem_append, h2]⟩
      rw [List.mem_singleton] at hb
      subst hb
      have ha' := (h2 a).1 ha
      obtain ⟨j, hj⟩ := List.getElem?_of_mem ha'
      have hjl : j < m := by
        have := (List.getElem?_eq_some_iff.1 hj).1
        rw [List.length_take] at this; omega
      rw [List.getElem?_take, if_pos hjl] at hj
      have hjd : j < d.toList.length := by omega
      rw [List.getElem?_eq_getElem hjd] at hj
      injection hj with hj
      have hne : d.toList[m] ≠ d.toList[m - 1] := by
        unfold Lib.keeps at hk
        simp only [decide_eq_true_eq] at hk
        rcases hk with hk | hk
        · omega
        · rw [hget, show d[m - 1]! = d.toList[m - 1] by simp [getElem!_pos d (m - 1) (by omega)]] at hk
          exact hk
      have hp : d.toList[m - 1] ≤ d.toList[m] := by
        rw [List.pairwise_iff_getElem] at hd
        exact hd (m - 1) m (by omega) hlt (by omega)
      have hlt2 : d.toList[m - 1] < d.toList[m] := by
        rcases List.le_iff_lt_or_eq.1 hp with g | g
        · exact g
        · exact absurd g.symm hne
      by_cases e : j = m - 1
      · subst e
        rw [← hj]; exact hlt2
      · have hle : d.toList[j] ≤ d.toList[m - 1] := by
          rw [List.pairwise_iff_getElem] at hd
          exact hd j (m - 1) hjd (by omega) (by omega)
        rw [← hj]
        rcases List.le_iff_lt_or_eq.1 hle with g | g
        · exact List.lt_trans g hlt2
        · rw [g]; exact hlt2
    · rw [if_neg hk, List.append_nil]
      refine ⟨h1, fun z => ?_⟩
      rw [h2, htk, List.mem_append, List.mem_singleton]
      unfold Lib.keeps at hk
      simp only [decide_eq_true_eq, not_or, Classical.not_not] at hk
      obtain ⟨k1, k2⟩ := hk
      rw [hget, show d[m - 1]! = d.toList[m - 1] by simp [getElem!_pos d (m - 1) (by omega)]] at k2
      constructor
      · intro h; exact Or.inl h
      · rintro (h | h)
        · exact h
        · rw [h, k2]
          refine List.mem_iff_getElem?.2 ⟨m - 1, ?_⟩
          rw [List.getElem?_take, if_pos (by omega), List.getElem?_eq_getElem]
theorem compact_asc {l : List Txt} (h : l.Pairwise (· ≤ ·)) : Asc (Lib.compact l) ∧ ∀ z, z ∈ Lib.compact l ↔ z ∈ l := by
  have := compact_upto l.toArray (by simpa using h) l.length (by simp)
  simpa [Lib.compact] using this
theorem sortL_le (l : List Txt) : (sortL l).Pairwise (· ≤ ·) := by
  have tr : ∀ a b c : List UInt8, leB a b = true → leB b c = true → leB a c = true := fun a b c h1 h2 => by simp only [leB, decide_eq_true_eq] at *; exact List.le_trans h1 h2
  have tt : ∀ a b : List UInt8, (leB a b || leB b a) = true := fun a b => by simp only [leB, Bool.or_eq_true, decide_eq_true_eq]; exact List.le_total a b
  exact (List.pairwise_mergeSort tr tt l).imp (fun h => by simpa [leB] using h)
theorem sortL_mem (l : List Txt) (z : Txt) : z ∈ sortL l ↔ z ∈ l := (List.mergeSort_perm l leB).mem_iff

theorem contains_iff' {l m : List Txt} (h : ∀ z, z ∈ l ↔ z ∈ m) (s : Txt) : l.contains s = m.contains s := by
  rw [Bool.eq_iff_iff, List.contains_iff_mem, List.contains_iff_mem]; exact h s
/-- All methods that are laid: the program sorts them, the document lays one after the other. -/
theorem allow_same (L : List Lt) : allowP L = allowT L := by
  have hm : ∀ z, z ∈ (msL L).foldl layL [] ↔ z ∈ msL L := fun z => by rw [lays_mem]; simp
  have ha : Asc ((msL L).foldl layL []) := lays_asc _ (by simp [Asc])
  obtain ⟨c1, c2⟩ := compact_asc (sortL_le (withHead (msL L)))
  unfold allowP allowT
  have hc := contains_iff' hm GET
  simp only
  refine asc_ext c1 ?_ fun z => ?_
  · split
    · exact layL_asc ha _
    · exact ha
  · rw [c2, sortL_mem, hc]
    unfold withHead
    split
    · rw [List.mem_append, layL_mem, hm, List.mem_singleton]
    · exact (hm z).symm

def pickL (L : List Lt) (m : Txt) : Option Int := match ofL L m with
  | some i => some i
  | none => if m = HEAD then ofL L GET else none
def matchL (L : List Lt) (m path : Txt) : Int × Txt × List Txt × Int :=
  match findP L path with
  | none => (0, [], [], 404)
  | some (k, rest) => match pickL (sel L k) m with
    | some i => (i, rest, [], 200)
    | none => (0, [], allowP (sel L k), 405)
end Go.Proofs.YtiglfbimijnpcaaGreatDoor

