/- Advance, in plain words: what has fired, what is left, while the timers that were met are gone through. -/
import Derived.Test.YtgmgjkafdkgalaaWhP
import Derived.Test.YtgmgjkafdkgalaaWhS
namespace Go.Proofs.Ytgmgjkafdkgalaa
open Go.RowKit Go.Proofs Go.Maps

def firedS (S : Hd → Bool) (n : Nat) (T : List Tb) : List Tb := T.filter fun x => S x.t.h && decide (x.t.a ≤ n)
def restS (S : Hd → Bool) (n : Nat) (T : List Tb) : List Tb := (T.filter fun x => !(S x.t.h && decide (x.t.a ≤ n))).map fun x => if S x.t.h = true then ⟨x.t, x.b, placeL n x.t.a⟩ else x
def firedP (S : Hd → Bool) (n : Nat) (T : List Tb) (h : Hd) : Bool := T.any fun x => decide (x.t.h = h) && S h && decide (x.t.a ≤ n)
def addS (S : Hd → Bool) (h : Hd) : Hd → Bool := fun q => S q || decide (q = h)
theorem filter_same {R : List Tb} {S : Hd → Bool} {h : Hd} {n : Nat} (hn : ∀ y ∈ R, y.t.h ≠ h) : firedS (addS S h) n R = firedS S n R ∧ restS (addS S h) n R = restS S n R := by
  have e : ∀ y ∈ R, addS S h y.t.h = S y.t.h := fun y hy => by unfold addS; rw [decide_eq_false (hn y hy), Bool.or_false]
  refine ⟨List.filter_congr (fun y hy => by rw [e y hy]), ?_⟩
  unfold restS
  have e1 : R.filter (fun x => !(addS S h x.t.h && decide (x.t.a ≤ n))) = R.filter (fun x => !(S x.t.h && decide (x.t.a ≤ n))) := List.filter_congr (fun y hy => by rw [e y hy])
  rw [e1]
  apply List.map_congr_left
  intro y hy
  rw [e y (List.mem_filter.1 hy).1]
theorem fired_cons_no {x : Tb} {R : List Tb} {S : Hd → Bool} {n : Nat} (h : S x.t.h = false) : firedS S n (x :: R) = firedS S n R ∧ restS S n (x :: R) = x :: restS S n R := by
  constructor
  · unfold firedS; rw [List.filter_cons_of_neg (by simp [h])]
  · unfold restS; rw [List.filter_cons_of_pos (by simp [h]), List.map_cons, if_neg (by simp [h])]
theorem fired_cons_due {x : Tb} {R : List Tb} {S : Hd → Bool} {n : Nat} (h : S x.t.h = true) (ha : x.t.a ≤ n) : firedS S n (x :: R) = x :: firedS S n R ∧ restS S n (x :: R) = restS S n R := by
  constructor
  · unfold firedS; rw [List.filter_cons_of_pos (by simp [h, ha])]
  · unfold restS; rw [List.filter_cons_of_neg (by simp [h, ha])]
theorem fired_cons_late {x : Tb} {R : List Tb} {S : Hd → Bool} {n : Nat} (h : S x.t.h = true) (ha : n < x.t.a) : firedS S n (x :: R) = firedS S n R ∧ restS S n (x :: R) = ⟨x.t, x.b, placeL n x.t.a⟩ :: restS S n R := by
  constructor
  · unfold firedS; rw [List.filter_cons_of_neg (by simp [h]; omega)]
  · unfold restS; rw [List.filter_cons_of_pos (by simp [h]; omega), List.map_cons, if_pos h]
theorem fired_perm {T T' : List Tb} (p : T.Perm T') (S : Hd → Bool) (n : Nat) : (firedS S n T).Perm (firedS S n T') ∧ (restS S n T).Perm (restS S n T') := ⟨p.filter _, (p.filter _).map _⟩
/-- What is known of T: no handle twice, no block twice. -/
def Tidy6 (T : List Tb) : Prop := (T.map (·.t.h)).Nodup ∧ (T.map (·.b)).Nodup
theorem tidy_of {w : World} {Os : Nat → Prop} {r s tm now ord n : Nat} {mb : Nat → Nat} {sb : List Sl} {T U : List Tb} (h : IsW w Os r s tm mb now ord n sb T U) : Tidy6 T := by
  refine ⟨?_, h.nd⟩
  have h1 := h.tms.1
  unfold keysT at h1
  rw [List.map_map] at h1
  exact h1
theorem Tidy6.split {T R : List Tb} {x : Tb} (h : Tidy6 T) (p : T.Perm (x :: R)) : ∀ y ∈ R, y.t.h ≠ x.t.h := by
  have h1 := (p.map (·.t.h)).nodup_iff.1 h.1
  rw [List.map_cons, List.nodup_cons] at h1
  intro y hy e
  exact h1.1 (List.mem_map.2 ⟨y, hy, e⟩)
/-- A step: x is met. -/
theorem adv_due {T R Tk F : List Tb} {x : Tb} {S : Hd → Bool} {n : Nat} (hT : Tidy6 T) (hx : x ∈ T) (hS : S x.t.h = false) (hTk : Tk.Perm (restS S n T)) (hF : F.Perm (firedS S n T)) (hR : Tk.Perm (x :: R)) (ha : x.t.a ≤ n) : R.Perm (restS (addS S x.t.h) n T) ∧ (F ++ [x]).Perm (firedS (addS S x.t.h) n T) := by
  obtain ⟨R0, p⟩ := pull hx
  have hn := hT.split p
  have hS' : addS S x.t.h x.t.h = true := by simp [addS]
  obtain ⟨p1, p2⟩ := fired_perm p S n
  obtain ⟨p3, p4⟩ := fired_perm p (addS S x.t.h) n
  obtain ⟨e1, e2⟩ := fired_cons_no (R := R0) (n := n) hS
  obtain ⟨e3, e4⟩ := fired_cons_due (R := R0) hS' ha
  obtain ⟨e5, e6⟩ := filter_same (S := S) (n := n) hn
  rw [e1] at p1
  rw [e2] at p2
  rw [e3, e5] at p3
  rw [e4, e6] at p4
  refine ⟨((hR.symm.trans (hTk.trans p2)).cons_inv).trans p4.symm, ?_⟩
  exact (List.perm_append_singleton _ _).trans (((hF.trans p1).cons x).trans p3.symm)
theorem adv_late {T R Tk F : List Tb} {x : Tb} {S : Hd → Bool} {n : Nat} (hT : Tidy6 T) (hx : x ∈ T) (hS : S x.t.h = false) (hTk : Tk.Perm (restS S n T)) (hF : F.Perm (firedS S n T)) (hR : Tk.Perm (x :: R)) (ha : n < x.t.a) : ((⟨x.t, x.b, placeL n x.t.a⟩ : Tb) :: R).Perm (restS (addS S x.t.h) n T) ∧ F.Perm (firedS (addS S x.t.h) n T) := by
  obtain ⟨R0, p⟩ := pull hx
  have hn := hT.split p
  have hS' : addS S x.t.h x.t.h = true := by simp [addS]
  obtain ⟨p1, p2⟩ := fired_perm p S n
  obtain ⟨p3, p4⟩ := fired_perm p (addS S x.t.h) n
  obtain ⟨e1, e2⟩ := fired_cons_no (R := R0) (n := n) hS
  obtain ⟨e3, e4⟩ := fired_cons_late (R := R0) hS' ha
  obtain ⟨e5, e6⟩ := filter_same (S := S) (n := n) hn
  rw [e1] at p1
  rw [e2] at p2
  rw [e3, e5] at p3
  rw [e4, e6] at p4
  refine ⟨(((hR.symm.trans (hTk.trans p2)).cons_inv).cons _).trans p4.symm, (hF.trans p1).trans p3.symm⟩
theorem rest_mem {T : List Tb} {x : Tb} {S : Hd → Bool} {n : Nat} (hx : x ∈ T) (hS : S x.t.h = false) : x ∈ restS S n T := by
  unfold restS
  refine List.mem_map.2 ⟨x, List.mem_filter.2 ⟨hx, by simp [hS]⟩, by rw [if_neg (by simp [hS])]⟩
theorem rest_from {T : List Tb} {y : Tb} {S : Hd → Bool} {n : Nat} (hy : y ∈ restS S n T) : ∃ x ∈ T, x.t = y.t ∧ x.b = y.b ∧ !(S x.t.h && decide (x.t.a ≤ n)) ∧ (S x.t.h = false → y = x) := by
  obtain ⟨x, hx, rfl⟩ := List.mem_map.1 hy
  obtain ⟨h1, h2⟩ := List.mem_filter.1 hx
  refine ⟨x, h1, ?_, ?_, h2, fun h => if_neg (by simp [h])⟩ <;> split <;> rfl
theorem firedP_add {T : List Tb} {x : Tb} {S : Hd → Bool} {n : Nat} (hx : x ∈ T) (ha : x.t.a ≤ n) (sb : List Sl) : takeB (takeP sb (firedP S n T)) x.t.h = takeP sb (firedP (addS S x.t.h) n T) := by
  unfold takeB
  rw [takeP_takeP]
  congr 1
  funext h
  unfold firedP addS
  rw [Bool.eq_iff_iff]
  simp only [Bool.or_eq_true, List.any_eq_true, Bool.and_eq_true, decide_eq_true_eq]
  constructor
  · rintro (⟨y, hy, ⟨e1, e2⟩, e3⟩ | e)
    · exact ⟨y, hy, ⟨e1, Or.inl e2⟩, e3⟩
    · exact ⟨x, hx, ⟨e.symm, Or.inr e⟩, ha⟩
  · rintro ⟨y, hy, ⟨e1, e2 | e2⟩, e3⟩
    · exact Or.inl ⟨y, hy, ⟨e1, e2⟩, e3⟩
    · exact Or.inr e2
theorem firedP_late {T : List Tb} {x : Tb} {S : Hd → Bool} {n : Nat} (hT : Tidy6 T) (hx : x ∈ T) (ha : n < x.t.a) (sb : List Sl) : takeP sb (firedP S n T) = takeP sb (firedP (addS S x.t.h) n T) := by
  congr 1
  funext h
  unfold firedP addS
  rw [Bool.eq_iff_iff]
  simp only [List.any_eq_true, Bool.and_eq_true, decide_eq_true_eq, Bool.or_eq_true]
  constructor
  · rintro ⟨y, hy, ⟨e1, e2⟩, e3⟩
    exact ⟨y, hy, ⟨e1, Or.inl e2⟩, e3⟩
  · rintro ⟨y, hy, ⟨e1, e2 | e2⟩, e3⟩
    · exact ⟨y, hy, ⟨e1, e2⟩, e3⟩
    · exfalso
      obtain ⟨R, p⟩ := pull hx
      rcases List.mem_cons.1 (p.mem_iff.1 hy) with rfl | hy2
      · omega
      · exact hT.split p y hy2 (e1.trans e2)
def inHs (hs : List Hd) (k : Nat) (h : Hd) : Bool := (hs.take k).contains h
theorem inHs_step {hs : List Hd} {k : Nat} {h : Hd} (hk : hs[k]? = some h) : inHs hs (k + 1) = addS (inHs hs k) h := by
  funext q
  unfold inHs addS
  have hlt : k < hs.length := by
    rcases Nat.lt_or_ge k hs.length with g | g
    · exact g
    · rw [List.getElem?_eq_none g] at hk; cases hk
  have e : hs[k] = h := by rw [List.getElem?_eq_getElem hlt] at hk; injection hk
  rw [List.take_succ_eq_append_getElem hlt, e, List.contains_append]
  congr 1
  simp
theorem inHs_not {hs : List Hd} {k : Nat} {h : Hd} (hn : hs.Nodup) (hk : hs[k]? = some h) : inHs hs k h = false := by
  unfold inHs
  have hlt : k < hs.length := by
    rcases Nat.lt_or_ge k hs.length with g | g
    · exact g
    · rw [List.getElem?_eq_none g] at hk; cases hk
  have e : hs[k] = h := by rw [List.getElem?_eq_getElem hlt] at hk; injection hk
  rw [Bool.eq_false_iff]
  intro hc
  have hm : h ∈ hs.take k := by simpa using hc
  obtain ⟨i, hi, e2⟩ := List.getElem_of_mem hm
  simp at hi
  rw [List.getElem_take] at e2
  have h3 := (List.pairwise_iff_getElem.1 hn) i k (by omega) hlt (by omega)
  exact h3 (e2.trans e.symm)
theorem inHs_all {hs : List Hd} (h : Hd) : inHs hs hs.length h = true ↔ h ∈ hs := by
  unfold inHs
  rw [List.take_length]; simp
/-- At the end: what was met is what the hands passed. -/
theorem adv_end {T : List Tb} {hs : List Hd} {m n : Nat} (hmn : m ≤ n) (hp : ∀ x ∈ T, x.p = placeL m x.t.a) (hT : Tidy6 T) (hh : ∀ h, h ∈ hs ↔ ∃ x ∈ T, x.t.h = h ∧ overL m n x.p.1 x.p.2 = true) :
    firedS (inHs hs hs.length) n T = T.filter (fun x => decide (x.t.a ≤ n)) ∧ restS (inHs hs hs.length) n T = (T.filter fun x => decide (n < x.t.a)).map (fun x => ⟨x.t, x.b, placeL n x.t.a⟩) ∧
    ∀ h, firedP (inHs hs hs.length) n T h = T.any (fun x => decide (x.t.h = h) && decide (x.t.a ≤ n)) := by
  have key : ∀ x ∈ T, (inHs hs hs.length x.t.h = true) ↔ overL m n x.p.1 x.p.2 = true := by
    intro x hx
    rw [inHs_all, hh]
    constructor
    · rintro ⟨y, hy, e, ho⟩
      obtain ⟨R, p⟩ := pull hx
      rcases List.mem_cons.1 (p.mem_iff.1 hy) with rfl | hy2
      · exact ho
      · exact absurd e (hT.split p y hy2)
    · intro ho
      exact ⟨x, hx, rfl, ho⟩
  have due : ∀ x ∈ T, x.t.a ≤ n → inHs hs hs.length x.t.h = true := by
    intro x hx ha
    rw [key x hx]
    cases ho : overL m n x.p.1 x.p.2 with
    | true => rfl
    | false =>
      rw [hp x hx] at ho
      have := (place_kept hmn ho).1
      omega
  refine ⟨List.filter_congr (fun x hx => ?_), ?_, fun h => ?_⟩
  · by_cases ha : x.t.a ≤ n
    · rw [due x hx ha]; rfl
    · rw [decide_eq_false ha, Bool.and_false]
  · unfold restS
    have e1 : T.filter (fun x => !(inHs hs hs.length x.t.h && decide (x.t.a ≤ n))) = T.filter fun x => decide (n < x.t.a) := List.filter_congr (fun x hx => by
      by_cases ha : x.t.a ≤ n
      · rw [due x hx ha, decide_eq_true ha, decide_eq_false (by omega)]; rfl
      · rw [decide_eq_false ha, Bool.and_false, decide_eq_true (by omega)]; rfl)
    rw [e1]
    apply List.map_congr_left
    intro x hx
    have hxT := (List.mem_filter.1 hx).1
    split
    · rfl
    · rename_i hs'
      have ho : overL m n (placeL m x.t.a).1 (placeL m x.t.a).2 = false := by
        have := fun e => hs' ((key x hxT).2 e)
        rw [hp x hxT] at this
        simpa using this
      have hk := (place_kept hmn ho).2
      rw [← hp x hxT] at hk
      cases x
      simp at hk ⊢
      exact hk.symm
  · unfold firedP
    rw [Bool.eq_iff_iff]
    simp only [List.any_eq_true, Bool.and_eq_true, decide_eq_true_eq]
    constructor
    · rintro ⟨x, hx, ⟨e1, _⟩, e3⟩
      exact ⟨x, hx, e1, e3⟩
    · rintro ⟨x, hx, e1, e3⟩
      exact ⟨x, hx, ⟨e1, e1 ▸ due x hx e3⟩, e3⟩
end Go.Proofs.Ytgmgjkafdkgalaa
