/- The wheel in plain words: slots of handles, timers, what each call does to them. -/
import Derived.Test.YtgmgjkafdkgalaaWhA
namespace Go.Proofs.Ytgmgjkafdkgalaa

/-- A handle. -/
structure Hd where
  slot : Int
  gen : Int
deriving DecidableEq
/-- A slot: how often it was used, whether it is, what it has. -/
structure Sl where
  g : Nat
  u : Bool
  v : Int
/-- A timer. -/
structure Tm where
  h : Hd
  a : Nat
  what : Int
  ord : Nat

def freeI : List Sl → Nat
  | [] => 0
  | x :: r => if x.u = true then freeI r + 1 else 0
def isB (l : List Sl) (h : Hd) : Bool :=
  decide (0 ≤ h.slot) && match l[h.slot.toNat]? with
    | some x => x.u && decide ((x.g : Int) = h.gen)
    | none => false
def genAt (l : List Sl) (i : Nat) : Nat := match l[i]? with
  | some x => x.g
  | none => 0
def putB (l : List Sl) (v : Int) : List Sl :=
  if freeI l < l.length then l.set (freeI l) ⟨genAt l (freeI l) + 1, true, v⟩ else l ++ [⟨1, true, v⟩]
def newH (l : List Sl) : Hd := ⟨(freeI l : Int), (genAt l (freeI l) + 1 : Nat)⟩
/-- All slots whose handles are of p are in use no more. -/
def takeP (l : List Sl) (p : Hd → Bool) : List Sl := l.mapIdx fun i x => ⟨x.g, x.u && !p ⟨(i : Int), (x.g : Int)⟩, x.v⟩
def takeB (l : List Sl) (h : Hd) : List Sl := takeP l (fun k => decide (k = h))

theorem freeI_le (l : List Sl) : freeI l ≤ l.length := by
  induction l with
  | nil => exact Nat.le_refl _
  | cons x r ih => unfold freeI; split <;> simp <;> omega
theorem freeI_used (l : List Sl) (i : Nat) (hi : i < freeI l) : ∃ x, l[i]? = some x ∧ x.u = true := by
  induction l generalizing i with
  | nil => simp [freeI] at hi
  | cons x r ih =>
    unfold freeI at hi
    split at hi
    · rename_i hx
      cases i with
      | zero => exact ⟨x, rfl, hx⟩
      | succ i => simpa using ih i (by omega)
    · omega
theorem freeI_free (l : List Sl) (h : freeI l < l.length) : ∃ x, l[freeI l]? = some x ∧ x.u = false := by
  induction l with
  | nil => simp at h
  | cons x r ih =>
    by_cases hx : x.u = true
    · have e : freeI (x :: r) = freeI r + 1 := by simp [freeI, hx]
      rw [e] at h ⊢
      simpa using ih (by simpa using h)
    · have e : freeI (x :: r) = 0 := by simp [freeI, hx]
      rw [e]
      exact ⟨x, rfl, by simpa using hx⟩
theorem takeP_len (l : List Sl) (p : Hd → Bool) : (takeP l p).length = l.length := by simp [takeP]
theorem takeP_at (l : List Sl) (p : Hd → Bool) (i : Nat) : (takeP l p)[i]? = l[i]?.map fun x => ⟨x.g, x.u && !p ⟨(i : Int), (x.g : Int)⟩, x.v⟩ := by
  simp [takeP, List.getElem?_mapIdx]
theorem takeP_takeP (l : List Sl) (p q : Hd → Bool) : takeP (takeP l p) q = takeP l (fun h => p h || q h) := by
  apply List.ext_getElem?
  intro i
  rw [takeP_at, takeP_at, takeP_at]
  cases l[i]? with
  | none => rfl
  | some x => simp [Bool.and_assoc]
theorem takeP_none (l : List Sl) (p : Hd → Bool) (h : ∀ k, p k = true → isB l k = false) : takeP l p = l := by
  apply List.ext_getElem?
  intro i
  rw [takeP_at]
  cases hx : l[i]? with
  | none => rfl
  | some x =>
    simp only [Option.map_some, Option.some.injEq]
    cases hp : p ⟨(i : Int), (x.g : Int)⟩ with
    | false => simp
    | true =>
      have := h _ hp
      simp [isB, hx] at this
      cases x
      simp_all
theorem takeP_congr (l : List Sl) {p q : Hd → Bool} (h : ∀ k, isB l k = true → p k = q k) : takeP l p = takeP l q := by
  apply List.ext_getElem?
  intro i
  rw [takeP_at, takeP_at]
  cases hx : l[i]? with
  | none => rfl
  | some x =>
    simp only [Option.map_some, Option.some.injEq, Sl.mk.injEq, true_and, and_true]
    cases hu : x.u with
    | false => rfl
    | true =>
      rw [h ⟨(i : Int), (x.g : Int)⟩ (by simp [isB, hx, hu])]
theorem isB_takeP (l : List Sl) (p : Hd → Bool) (h : Hd) : isB (takeP l p) h = (isB l h && !p h) := by
  unfold isB
  rw [takeP_at]
  by_cases h0 : 0 ≤ h.slot
  · cases hx : l[h.slot.toNat]? with
    | none => simp
    | some x =>
      by_cases hg : (x.g : Int) = h.gen
      · have e : (⟨((h.slot.toNat : Nat) : Int), (x.g : Int)⟩ : Hd) = h := by cases h; simp at h0 hg ⊢; exact ⟨by omega, hg⟩
        simp only [Option.map_some, h0, decide_true, Bool.true_and, hg, Bool.and_true]
        rw [← hg, e]
      · simp [hg]
  · simp [h0]
theorem isB_putB (l : List Sl) (v : Int) (h : Hd) : isB (putB l v) h = (decide (h = newH l) || isB l h) := by
  have hfl := freeI_le l
  unfold putB
  split
  · rename_i hlt
    obtain ⟨x, hx, hxu⟩ := freeI_free l hlt
    have hg : genAt l (freeI l) = x.g := by simp [genAt, hx]
    unfold isB newH
    rw [hg]
    by_cases h0 : 0 ≤ h.slot
    · by_cases hs : h.slot.toNat = freeI l
      · rw [hs, hx]
        have : (l.set (freeI l) ⟨x.g + 1, true, v⟩)[freeI l]? = some ⟨x.g + 1, true, v⟩ := by simp [hlt]
        rw [this]
        simp [h0, hxu]
        cases h
        simp at hs h0 ⊢
        constructor
        · intro e; exact ⟨by omega, e.symm⟩
        · intro e; exact e.2.symm
      · rw [List.getElem?_set_ne (fun e => hs e.symm)]
        have : ¬ h = ⟨(freeI l : Int), ((x.g + 1 : Nat) : Int)⟩ := by
          intro e; apply hs; rw [e]; simp
        rw [decide_eq_false this, Bool.false_or]
    · have : ¬ h = ⟨(freeI l : Int), ((x.g + 1 : Nat) : Int)⟩ := by
        intro e; apply h0; rw [e]; simp
      rw [decide_eq_false this, decide_eq_false h0]; rfl
  · rename_i hge
    have he : freeI l = l.length := by omega
    have hg : genAt l (freeI l) = 0 := by simp [genAt, he]
    unfold isB newH
    rw [hg, he]
    by_cases h0 : 0 ≤ h.slot
    · by_cases hs : h.slot.toNat = l.length
      · rw [hs]
        simp [h0]
        cases h
        simp at hs h0 ⊢
        constructor
        · intro e; exact ⟨by omega, by omega⟩
        · intro e; omega
      · have : ¬ h = ⟨(l.length : Int), ((0 + 1 : Nat) : Int)⟩ := by
          intro e; apply hs; rw [e]; simp
        by_cases hlt : h.slot.toNat < l.length
        · rw [List.getElem?_append_left hlt, decide_eq_false this, Bool.false_or]
        · rw [List.getElem?_eq_none (by simp; omega), List.getElem?_eq_none (l := l) (by omega), decide_eq_false this, Bool.false_or]
    · have : ¬ h = ⟨(l.length : Int), ((0 + 1 : Nat) : Int)⟩ := by
        intro e; apply h0; rw [e]; simp
      rw [decide_eq_false this, decide_eq_false h0]; rfl
theorem isB_newH (l : List Sl) : isB l (newH l) = false := by
  unfold isB newH
  by_cases hlt : freeI l < l.length
  · obtain ⟨x, hx, hxu⟩ := freeI_free l hlt
    simp [hx, hxu]
  · rw [List.getElem?_eq_none (by simp; omega)]
    simp
end Go.Proofs.Ytgmgjkafdkgalaa
