/- Advance in single firings, in plain words. -/
import Derived.Test.YtgmgjkafdkgalaaTwZ
namespace Go.Proofs.Ytgmgjkafdkgalaa
open Go.RowKit Go.Proofs Go.Maps

def advN (s : St) (n : Nat) : List Int × St :=
  ((dueL n s.L).map (·.what), { s with now := n, sb := takeP s.sb (fun h => hasT s h && (s.L.any fun t => decide (t.h = h) && decide (t.a ≤ n))), L := restL n s.L })
theorem advW_advN (s : St) (n : Int) : advW s n = advN s (goesTo s n) := rfl
theorem advN_now (s : St) (n m : Nat) : advN { s with now := m } n = advN s n := rfl
theorem St.Ok.atNow {s : St} (o : s.Ok) {n : Nat} (hn : n ≤ 1099511627776) : St.Ok { s with now := n } :=
  ⟨o.inS, o.one, o.ords, o.apart, o.ats, hn, o.slots, o.gens, o.len⟩
theorem dropT_erase {L : List Tm} {k : Nat} {t : Tm} (one : L.Pairwise fun x y => x.h ≠ y.h) (hk : L[k]? = some t) : dropT L t.h = L.eraseIdx k := by
  induction L generalizing k with
  | nil => simp at hk
  | cons y l ih =>
    have hone := (List.pairwise_cons.1 one)
    cases k with
    | zero =>
      simp at hk
      subst hk
      unfold dropT
      rw [List.filter_cons, if_neg (by simp), List.eraseIdx_cons_zero, List.filter_eq_self]
      intro z hz
      simpa using fun e => hone.1 z hz e.symm
    | succ k =>
      have hk : l[k]? = some t := by simpa using hk
      have hne : y.h ≠ t.h := hone.1 t (List.mem_of_getElem? hk)
      unfold dropT at ih ⊢
      rw [List.filter_cons, if_pos (by simpa using hne), List.eraseIdx_cons_succ, ih hone.2 hk]
theorem advN_step {s : St} (o : s.Ok) {n k : Nat} {t : Tm} (hk : s.L[k]? = some t) (hd : t.a ≤ n) (hmin : ∀ x ∈ s.L, x.a ≤ n → leT t x = true) : advN s n = (t.what :: (advN (cancel1 s t.h) n).1, (advN (cancel1 s t.h) n).2) := by
  obtain ⟨hlt, hkt⟩ := List.getElem?_eq_some_iff.1 hk
  have hmem := List.mem_of_getElem? hk
  have e1 : dueL n s.L = t :: dueL n (dropT s.L t.h) := by
    have := dueL_first o.apart hlt (by rw [hkt]; exact hd) (by rw [hkt]; exact hmin)
    rw [this, hkt, dropT_erase o.one hk]
  have e2 : restL n (dropT s.L t.h) = restL n s.L := by
    unfold restL dropT
    rw [List.filter_filter]
    apply List.filter_congr
    intro x hx
    by_cases e : x.h = t.h
    · have := o.eq hx hmem e
      subst this
      simp; omega
    · simp [e]
  unfold advN
  rw [e1]
  refine Prod.ext rfl ?_
  show St.mk n s.ord _ _ = St.mk n s.ord _ _
  congr 1
  · show takeP s.sb _ = takeP (takeB s.sb t.h) _
    unfold takeB
    rw [takeP_takeP]
    apply takeP_congr
    intro h hh
    rw [o.inS] at hh
    rw [hh, Bool.true_and]
    by_cases e : h = t.h
    · subst e
      simp only [decide_true, Bool.true_or]
      rw [List.any_eq_true]
      exact ⟨t, hmem, by simp [hd]⟩
    · have h1 : hasT (cancel1 s t.h) h = true := by
        obtain ⟨x, hx, hxe⟩ := hasT_mem.1 hh
        exact hasT_mem.2 ⟨x, by simpa [cancel1, dropT, hx] using fun e2 => e (hxe.symm.trans e2), hxe⟩
      rw [h1, decide_eq_false e, Bool.false_or, Bool.true_and]
      show (s.L.any _) = ((dropT s.L t.h).any _)
      rw [Bool.eq_iff_iff, List.any_eq_true, List.any_eq_true]
      constructor
      · rintro ⟨x, hx, hx2⟩
        refine ⟨x, ?_, hx2⟩
        simp only [Bool.and_eq_true, decide_eq_true_eq] at hx2
        simpa [dropT, hx] using fun e2 => e (hx2.1.symm.trans e2)
      · rintro ⟨x, hx, hx2⟩
        exact ⟨x, (List.mem_filter.1 hx).1, hx2⟩
  · exact e2.symm
theorem advN_end {s : St} (_ : s.Ok) {n : Nat} (hno : ∀ x ∈ s.L, n < x.a) : advN s n = ([], { s with now := n }) := by
  unfold advN
  rw [dueL_nil hno]
  refine Prod.ext rfl ?_
  show St.mk n s.ord _ _ = St.mk n s.ord _ _
  congr 1
  · apply takeP_none
    intro h hh
    simp only [Bool.and_eq_true, List.any_eq_true, decide_eq_true_eq] at hh
    obtain ⟨_, x, hx, _, hx2⟩ := hh
    have := hno x hx
    omega
  · unfold restL
    rw [List.filter_eq_self]
    intro x hx
    simpa using hno x hx
/-- The least of the due ones among the first i. -/
def MinAt (L : List Tm) (n i : Nat) (r : Int) : Prop :=
  (r = -1 ∧ ∀ x ∈ L.take i, n < x.a) ∨ ∃ (k : Nat) (t : Tm), r = k ∧ k < i ∧ L[k]? = some t ∧ t.a ≤ n ∧ ∀ x ∈ L.take i, x.a ≤ n → leT t x = true
theorem minAt_zero (L : List Tm) (n : Nat) : MinAt L n 0 (-1) := Or.inl ⟨rfl, by simp⟩
theorem take_mem {L : List Tm} {i : Nat} {t x : Tm} (hi : L[i]? = some t) (hx : x ∈ L.take (i + 1)) : x ∈ L.take i ∨ x = t := by
  rw [List.take_add_one, hi] at hx
  simpa using hx
theorem minAt_late {L : List Tm} {n i : Nat} {r : Int} {t : Tm} (h : MinAt L n i r) (hi : L[i]? = some t) (ht : n < t.a) : MinAt L n (i + 1) r := by
  rcases h with ⟨h1, h2⟩ | ⟨k, u, h1, h2, h3, h4, h5⟩
  · refine Or.inl ⟨h1, fun x hx => ?_⟩
    rcases take_mem hi hx with hx | rfl
    · exact h2 x hx
    · exact ht
  · refine Or.inr ⟨k, u, h1, by omega, h3, h4, fun x hx hxn => ?_⟩
    rcases take_mem hi hx with hx | rfl
    · exact h5 x hx hxn
    · omega
theorem minAt_first {L : List Tm} {n i : Nat} {t : Tm} (h : MinAt L n i (-1)) (hi : L[i]? = some t) (ht : t.a ≤ n) : MinAt L n (i + 1) i := by
  rcases h with ⟨_, h2⟩ | ⟨k, u, h1, _⟩
  · refine Or.inr ⟨i, t, rfl, by omega, hi, ht, fun x hx hxn => ?_⟩
    rcases take_mem hi hx with hx | rfl
    · have := h2 x hx; omega
    · simp [leT]
  · omega
theorem minAt_new {L : List Tm} {n i k : Nat} {t u : Tm} (h : MinAt L n i k) (hk : L[k]? = some u) (hi : L[i]? = some t) (ht : t.a ≤ n) (hlt : t.a < u.a ∨ (t.a = u.a ∧ t.ord < u.ord)) : MinAt L n (i + 1) i := by
  rcases h with ⟨h1, _⟩ | ⟨k', u', h1, _, h3, _, h5⟩
  · omega
  · have : k' = k := by omega
    subst this
    rw [hk] at h3
    injection h3 with h3
    subst h3
    refine Or.inr ⟨i, t, rfl, by omega, hi, ht, fun x hx hxn => ?_⟩
    rcases take_mem hi hx with hx | rfl
    · refine leT_trans t u x ?_ (h5 x hx hxn)
      simp [leT]; omega
    · simp [leT]
theorem minAt_old {L : List Tm} {n i k : Nat} {t u : Tm} (h : MinAt L n i k) (hk : L[k]? = some u) (hi : L[i]? = some t) (hge : ¬ (t.a < u.a ∨ (t.a = u.a ∧ t.ord < u.ord))) : MinAt L n (i + 1) k := by
  rcases h with ⟨h1, _⟩ | ⟨k', u', h1, h2, h3, h4, h5⟩
  · omega
  · have : k' = k := by omega
    subst this
    rw [hk] at h3
    injection h3 with h3
    subst h3
    refine Or.inr ⟨k', u, h1, by omega, hk, h4, fun x hx hxn => ?_⟩
    rcases take_mem hi hx with hx | rfl
    · exact h5 x hx hxn
    · simp [leT]; omega
end Go.Proofs.Ytgmgjkafdkgalaa
