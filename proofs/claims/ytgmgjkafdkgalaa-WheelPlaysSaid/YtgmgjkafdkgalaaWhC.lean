/- The wheel in plain words: its state, its calls, how timers fire in their order. -/
import Derived.Test.YtgmgjkafdkgalaaWhB
namespace Go.Proofs.Ytgmgjkafdkgalaa

/-- By their time; those of one time by the order in which they were set. -/
def leT (x y : Tm) : Bool := decide (x.a < y.a) || (decide (x.a = y.a) && decide (x.ord ≤ y.ord))
theorem leT_trans (a b c : Tm) (h : leT a b = true) (k : leT b c = true) : leT a c = true := by
  simp [leT] at *; omega
theorem leT_total (a b : Tm) : (leT a b || leT b a) = true := by
  simp [leT]; omega
/-- No two of one order. -/
def Ords (L : List Tm) : Prop := ∀ x ∈ L, ∀ y ∈ L, x.ord = y.ord → x = y
/-- What fires up to time n. -/
def dueL (n : Nat) (L : List Tm) : List Tm := (L.filter fun t => decide (t.a ≤ n)).mergeSort leT
def restL (n : Nat) (L : List Tm) : List Tm := L.filter fun t => decide (n < t.a)
theorem dueL_perm (n : Nat) (L : List Tm) : (dueL n L).Perm (L.filter fun t => decide (t.a ≤ n)) := List.mergeSort_perm _ _
theorem mem_dueL {n : Nat} {L : List Tm} {t : Tm} : t ∈ dueL n L ↔ t ∈ L ∧ t.a ≤ n := by
  rw [(dueL_perm n L).mem_iff]; simp
theorem mem_restL {n : Nat} {L : List Tm} {t : Tm} : t ∈ restL n L ↔ t ∈ L ∧ n < t.a := by simp [restL]
theorem dueL_sorted (n : Nat) (L : List Tm) : (dueL n L).Pairwise (fun x y => leT x y = true) := List.pairwise_mergeSort leT_trans leT_total _
theorem sorted_unique {L M N : List Tm} (hO : Ords L) (hM : ∀ t ∈ M, t ∈ L) (hN : ∀ t ∈ N, t ∈ L) (p : M.Perm N) (sM : M.Pairwise (fun x y => leT x y = true)) (sN : N.Pairwise (fun x y => leT x y = true)) : M = N := by
  refine List.Perm.eq_of_pairwise (le := fun x y => leT x y = true) (fun a b ha hb h1 h2 => ?_) sM sN p
  refine hO a (hM a ha) b (hN b hb) ?_
  simp [leT] at h1 h2; omega
theorem dueL_unique {n : Nat} {L M : List Tm} (hO : Ords L) (p : M.Perm (L.filter fun t => decide (t.a ≤ n))) (s : M.Pairwise (fun x y => leT x y = true)) : M = dueL n L := by
  have p2 := p.trans (dueL_perm n L).symm
  refine sorted_unique hO (fun t ht => ?_) (fun t ht => (mem_dueL.1 ht).1) p2 s (dueL_sorted n L)
  have := (p.mem_iff (a := t)).1 ht
  exact (List.mem_filter.1 this).1
/-- One step, or two. -/
theorem dueL_split {m n : Nat} {L : List Tm} (hO : Ords L) (h : m ≤ n) : dueL n L = dueL m L ++ dueL n (restL m L) := by
  refine (dueL_unique hO ?_ ?_).symm
  · refine ((dueL_perm m L).append (dueL_perm n (restL m L))).trans ?_
    have e : (restL m L).filter (fun t => decide (t.a ≤ n)) = (L.filter fun t => decide (t.a ≤ n)).filter (fun t => !decide (t.a ≤ m)) := by
      simp only [restL, List.filter_filter]
      apply List.filter_congr
      intro t _
      rw [Bool.eq_iff_iff]; simp; omega
    have e2 : (L.filter fun t => decide (t.a ≤ m)) = (L.filter fun t => decide (t.a ≤ n)).filter (fun t => decide (t.a ≤ m)) := by
      simp only [List.filter_filter]
      apply List.filter_congr
      intro t _
      rw [Bool.eq_iff_iff]; simp; omega
    rw [e, e2]
    exact List.filter_append_perm _ _
  · rw [List.pairwise_append]
    refine ⟨dueL_sorted _ _, dueL_sorted _ _, fun x hx y hy => ?_⟩
    have h1 := (mem_dueL.1 hx).2
    have h2 := (mem_restL.1 (mem_dueL.1 hy).1).2
    simp [leT]; omega
theorem restL_restL {m n : Nat} (L : List Tm) (h : m ≤ n) : restL n (restL m L) = restL n L := by
  simp only [restL, List.filter_filter]
  apply List.filter_congr
  intro t _
  rw [Bool.eq_iff_iff]; simp; omega
theorem Ords.rest {L : List Tm} (h : Ords L) (n : Nat) : Ords (restL n L) := fun x hx y hy => h x (mem_restL.1 hx).1 y (mem_restL.1 hy).1
theorem dueL_nil {n : Nat} {L : List Tm} (h : ∀ t ∈ L, n < t.a) : dueL n L = [] := by
  have : L.filter (fun t => decide (t.a ≤ n)) = [] := by
    rw [List.filter_eq_nil_iff]; intro t ht; have := h t ht; simp; omega
  rw [dueL, this]; simp
theorem restL_nil {n : Nat} {L : List Tm} (h : ∀ t ∈ L, t.a ≤ n) : restL n L = [] := by
  rw [restL, List.filter_eq_nil_iff]; intro t ht; have := h t ht; simp; omega
theorem cons_eraseIdx {l : List Tm} {k : Nat} (h : k < l.length) : (l[k] :: l.eraseIdx k).Perm l := by
  induction l generalizing k with
  | nil => simp at h
  | cons x r ih =>
    cases k with
    | zero => exact List.Perm.refl _
    | succ k =>
      have := ih (k := k) (by simpa using h)
      exact (List.Perm.swap _ _ _).trans (this.cons x)
/-- The first to fire. -/
theorem dueL_first {n k : Nat} {L : List Tm} (hO : Ords L) (hk : k < L.length) (hd : L[k].a ≤ n) (hmin : ∀ t ∈ L, t.a ≤ n → leT L[k] t = true) : dueL n L = L[k] :: dueL n (L.eraseIdx k) := by
  refine (dueL_unique hO ?_ ?_).symm
  · have h1 := dueL_perm n (L.eraseIdx k)
    refine (List.Perm.cons _ h1).trans ?_
    have h2 : (L[k] :: L.eraseIdx k).Perm L := by
      exact cons_eraseIdx hk
    have h3 := h2.filter (fun t => decide (t.a ≤ n))
    rw [List.filter_cons_of_pos (by simpa using hd)] at h3
    exact h3
  · rw [List.pairwise_cons]
    refine ⟨fun y hy => ?_, dueL_sorted _ _⟩
    obtain ⟨h1, h2⟩ := mem_dueL.1 hy
    exact hmin y (List.mem_of_mem_eraseIdx h1) h2

/-- A wheel's state. -/
structure St where
  now : Nat
  ord : Nat
  sb : List Sl
  L : List Tm
def MaxT : Nat := 1099511627776
def isTime (n : Int) : Bool := decide (0 ≤ n) && decide (n ≤ 1099511627776)
def hasT (s : St) (h : Hd) : Bool := s.L.any fun t => decide (t.h = h)
def findT (s : St) (h : Hd) : Option Tm := s.L.find? fun t => decide (t.h = h)
def addW (s : St) (a : Int) (what : Int) : Hd × Int × St :=
  if isTime a = true then (newH s.sb, 0, { s with ord := s.ord + 1, sb := putB s.sb what, L := s.L ++ [⟨newH s.sb, a.toNat, what, s.ord + 1⟩] }) else (⟨0, 0⟩, 1, s)
def setT (L : List Tm) (h : Hd) (a ord : Nat) : List Tm := L.map fun t => if t.h = h then { t with a := a, ord := ord } else t
def resetW (s : St) (h : Hd) (a : Int) : Int × St :=
  if isTime a = true then (if hasT s h = true then (0, { s with ord := s.ord + 1, L := setT s.L h a.toNat (s.ord + 1) }) else (10, s)) else (1, s)
def dropT (L : List Tm) (h : Hd) : List Tm := L.filter fun t => !decide (t.h = h)
def cancel1 (s : St) (h : Hd) : St := { s with sb := takeB s.sb h, L := dropT s.L h }
def cancelW (s : St) : List Hd → Int × St
  | [] => (0, s)
  | h :: r => if hasT s h = true then ((cancelW (cancel1 s h) r).1 + 1, (cancelW (cancel1 s h) r).2) else cancelW s r
def goesTo (s : St) (n : Int) : Nat := (min (max n s.now) 1099511627776).toNat
def advW (s : St) (n : Int) : List Int × St :=
  ((dueL (goesTo s n) s.L).map (·.what), { s with now := goesTo s n, sb := takeP s.sb (fun h => hasT s h && (s.L.any fun t => decide (t.h = h) && decide (t.a ≤ goesTo s n))), L := restL (goesTo s n) s.L })
def whereW (s : St) (h : Hd) : Int × Int × Int := match findT s h with
  | some t => (((placeL s.now t.a).1 : Int), ((placeL s.now t.a).2 : Int), 0)
  | none => (0, 0, 10)
def nextW (s : St) : Int × Bool := match s.L with
  | [] => (0, false)
  | t :: r => ((r.foldl (fun m x => min m x.a) t.a : Nat), true)

/-- A state as it comes about. -/
structure St.Ok (s : St) : Prop where
  inS : ∀ h, isB s.sb h = hasT s h
  one : s.L.Pairwise fun x y => x.h ≠ y.h
  ords : ∀ t ∈ s.L, t.ord ≤ s.ord
  apart : Ords s.L
  ats : ∀ t ∈ s.L, t.a ≤ 1099511627776
  now : s.now ≤ 1099511627776
  slots : s.sb.length ≤ s.ord
  gens : ∀ x ∈ s.sb, x.g ≤ s.ord
  len : s.L.length ≤ s.ord
def St.new (n : Nat) : St := ⟨n, 0, [], []⟩
theorem St.Ok.new {n : Nat} (h : n ≤ 1099511627776) : (St.new n).Ok :=
  ⟨fun h => by simp [St.new, isB, hasT], List.Pairwise.nil, by simp [St.new], by simp [St.new, Ords], by simp [St.new], h, by simp [St.new], by simp [St.new], by simp [St.new]⟩
theorem hasT_mem {s : St} {h : Hd} : hasT s h = true ↔ ∃ t ∈ s.L, t.h = h := by simp [hasT]
theorem St.Ok.eq {s : St} (o : s.Ok) {x y : Tm} (hx : x ∈ s.L) (hy : y ∈ s.L) (e : x.h = y.h) : x = y := by
  have hp := o.one
  rw [List.pairwise_iff_getElem] at hp
  obtain ⟨i, hi, rfl⟩ := List.getElem_of_mem hx
  obtain ⟨j, hj, rfl⟩ := List.getElem_of_mem hy
  rcases Nat.lt_trichotomy i j with h | h | h
  · exact absurd e (hp i j hi hj h)
  · subst h; rfl
  · exact absurd e.symm (hp j i hj hi h)
theorem St.Ok.nodup {s : St} (o : s.Ok) : s.L.Nodup := o.one.imp fun h e => h (by rw [e])
theorem putB_len (l : List Sl) (v : Int) : (putB l v).length ≤ l.length + 1 := by unfold putB; split <;> simp
theorem genAt_le {l : List Sl} {n : Nat} (h : ∀ x ∈ l, x.g ≤ n) (i : Nat) : genAt l i ≤ n := by
  unfold genAt
  split
  · rename_i x hx; exact h x (List.mem_of_getElem? hx)
  · omega
theorem putB_gens {l : List Sl} {v : Int} {n : Nat} (h : ∀ x ∈ l, x.g ≤ n) : ∀ x ∈ putB l v, x.g ≤ n + 1 := by
  intro x hx
  unfold putB at hx
  split at hx
  · rcases List.mem_or_eq_of_mem_set hx with hx | rfl
    · have := h x hx; omega
    · have := genAt_le h (freeI l); simp; omega
  · rcases List.mem_append.1 hx with hx | hx
    · have := h x hx; omega
    · rw [List.mem_singleton] at hx; subst hx; simp
theorem addW_ok {s : St} (o : s.Ok) (a what : Int) : (addW s a what).2.2.Ok := by
  unfold addW
  split
  · rename_i ht
    simp [isTime] at ht
    have hno : ∀ t ∈ s.L, t.h ≠ newH s.sb := fun t ht e => by
      have h1 := isB_newH s.sb
      rw [o.inS, ← e] at h1
      have := hasT_mem.2 ⟨t, ht, rfl⟩
      rw [h1] at this
      cases this
    refine ⟨fun h => ?_, ?_, fun t ht => ?_, fun x hx y hy e => ?_, fun t ht2 => ?_, o.now, ?_, ?_, ?_⟩
    · rw [isB_putB, o.inS]
      rw [Bool.eq_iff_iff]
      simp only [Bool.or_eq_true, decide_eq_true_eq, hasT_mem, List.mem_append, List.mem_singleton]
      constructor
      · rintro (rfl | ⟨t, h1, h2⟩)
        · exact ⟨_, Or.inr rfl, rfl⟩
        · exact ⟨t, Or.inl h1, h2⟩
      · rintro ⟨t, h1 | rfl, h2⟩
        · exact Or.inr ⟨t, h1, h2⟩
        · exact Or.inl h2.symm
    · rw [List.pairwise_append]
      exact ⟨o.one, List.pairwise_singleton _ _, fun x hx y hy => by rw [List.mem_singleton] at hy; subst hy; exact hno x hx⟩
    · rcases List.mem_append.1 ht with h1 | h1
      · have := o.ords t h1; simp; omega
      · rw [List.mem_singleton] at h1; subst h1; simp
    · rcases List.mem_append.1 hx with h1 | h1 <;> rcases List.mem_append.1 hy with h2 | h2
      · exact o.apart x h1 y h2 e
      · rw [List.mem_singleton] at h2; subst h2; have := o.ords x h1; simp at e; omega
      · rw [List.mem_singleton] at h1; subst h1; have := o.ords y h2; simp at e; omega
      · rw [List.mem_singleton] at h1 h2; subst h1; subst h2; rfl
    · rcases List.mem_append.1 ht2 with h1 | h1
      · exact o.ats t h1
      · rw [List.mem_singleton] at h1; subst h1; simp; omega
    · have := putB_len s.sb what; have := o.slots; simp; omega
    · exact putB_gens o.gens
    · have := o.len; simp; omega
  · exact o
theorem setT_h (L : List Tm) (h : Hd) (a ord : Nat) : (setT L h a ord).map (·.h) = L.map (·.h) := by
  simp only [setT, List.map_map]
  apply List.map_congr_left
  intro t _
  simp only [Function.comp]
  split <;> rfl
theorem mem_setT {L : List Tm} {h : Hd} {a ord : Nat} {t : Tm} (ht : t ∈ setT L h a ord) : ∃ x ∈ L, x.h = t.h ∧ x.what = t.what ∧ ((x.h = h ∧ t.a = a ∧ t.ord = ord) ∨ (x.h ≠ h ∧ t = x)) := by
  obtain ⟨x, hx, rfl⟩ := List.mem_map.1 ht
  refine ⟨x, hx, ?_⟩
  split
  · rename_i e; exact ⟨rfl, rfl, Or.inl ⟨e, rfl, rfl⟩⟩
  · rename_i e; exact ⟨rfl, rfl, Or.inr ⟨e, rfl⟩⟩
theorem hasT_of_map {s s' : St} (e : s'.L.map (·.h) = s.L.map (·.h)) (h : Hd) : hasT s' h = hasT s h := by
  have f : ∀ s : St, hasT s h = (s.L.map (·.h)).any (fun k => decide (k = h)) := fun s => by simp only [hasT, List.any_map]; rfl
  rw [f, f, e]
theorem resetW_ok {s : St} (o : s.Ok) (h : Hd) (a : Int) : (resetW s h a).2.Ok := by
  unfold resetW
  split
  · rename_i ht
    simp [isTime] at ht
    split
    · refine ⟨fun k => ?_, ?_, fun t ht => ?_, fun x hx y hy e => ?_, fun t ht2 => ?_, o.now, ?_, ?_, ?_⟩
      · rw [o.inS]
        exact (hasT_of_map (s := s) (setT_h s.L h a.toNat (s.ord + 1)) k).symm
      · have := (List.pairwise_map (f := Tm.h) (R := fun x y => x ≠ y)).2 o.one
        refine (List.pairwise_map (f := Tm.h) (R := fun x y => x ≠ y)).1 ?_
        rw [show (setT s.L h a.toNat (s.ord + 1)).map Tm.h = s.L.map Tm.h from setT_h _ _ _ _]; exact this
      · obtain ⟨x, hx, _, _, h1 | h1⟩ := mem_setT ht
        · simp; omega
        · have := o.ords x hx; rw [h1.2]; simp; omega
      · obtain ⟨x', hx', ex, _, h1⟩ := mem_setT hx
        obtain ⟨y', hy', ey, _, h2⟩ := mem_setT hy
        have ox := o.ords x' hx'
        have oy := o.ords y' hy'
        rcases h1 with ⟨h1, h3, h4⟩ | ⟨h1, rfl⟩ <;> rcases h2 with ⟨h2, h5, h6⟩ | ⟨h2, rfl⟩
        · have := o.eq hx' hy' (h1.trans h2.symm)
          subst this
          have e3 : x.what = y.what := by simp_all
          cases x; cases y
          simp_all
        · omega
        · omega
        · exact o.apart _ hx' _ hy' e
      · obtain ⟨x, hx, _, _, h1 | h1⟩ := mem_setT ht2
        · rw [h1.2.1]; omega
        · rw [h1.2]; exact o.ats x hx
      · have := o.slots; simp; omega
      · intro x hx; have := o.gens x hx; simp; omega
      · have := o.len; simp [setT]; omega
    · exact o
  · exact o
theorem hasT_filter {s : St} (o : s.Ok) (p : Tm → Bool) (sb : List Sl) (n : Nat) (h : Hd) : hasT ⟨n, s.ord, sb, s.L.filter p⟩ h = (hasT s h && !(s.L.any fun t => decide (t.h = h) && !p t)) := by
  rw [Bool.eq_iff_iff]
  simp only [hasT_mem, Bool.and_eq_true, Bool.not_eq_true', List.mem_filter, List.any_eq_false, decide_eq_true_eq, not_and]
  constructor
  · rintro ⟨t, ⟨h1, h2⟩, rfl⟩
    refine ⟨⟨t, h1, rfl⟩, fun x hx e => ?_⟩
    have := o.eq hx h1 e
    subst this
    simp [h2]
  · rintro ⟨⟨t, h1, rfl⟩, h2⟩
    exact ⟨t, ⟨h1, by simpa using h2 t h1 rfl⟩, rfl⟩
theorem filter_ok {s : St} (o : s.Ok) (p : Tm → Bool) (q : Hd → Bool) (n : Nat) (hn : n ≤ 1099511627776) (hq : ∀ t ∈ s.L, q t.h = !p t) : St.Ok ⟨n, s.ord, takeP s.sb q, s.L.filter p⟩ := by
  refine ⟨fun h => ?_, List.Pairwise.sublist List.filter_sublist o.one, fun t ht => o.ords t (List.mem_filter.1 ht).1, fun x hx y hy => o.apart x (List.mem_filter.1 hx).1 y (List.mem_filter.1 hy).1, fun t ht => o.ats t (List.mem_filter.1 ht).1, hn, ?_, ?_, ?_⟩
  · rw [isB_takeP, hasT_filter o, o.inS]
    cases hh : hasT s h with
    | false => rfl
    | true =>
      simp only [Bool.true_and]
      congr 1
      obtain ⟨t, ht, rfl⟩ := hasT_mem.1 hh
      rw [hq t ht, Bool.eq_iff_iff]
      simp only [List.any_eq_true, Bool.and_eq_true, decide_eq_true_eq]
      constructor
      · intro hp; exact ⟨t, ht, rfl, hp⟩
      · rintro ⟨x, hx, e, hp⟩
        have := o.eq hx ht e
        subst this
        exact hp
  · rw [takeP_len]; exact o.slots
  · intro x hx
    obtain ⟨i, hi, rfl⟩ := List.getElem_of_mem hx
    have h1 : (takeP s.sb q)[i]? = some (takeP s.sb q)[i] := List.getElem?_eq_getElem hi
    rw [takeP_at] at h1
    cases hs : s.sb[i]? with
    | none => rw [hs] at h1; cases h1
    | some y =>
      rw [hs] at h1
      simp only [Option.map_some, Option.some.injEq] at h1
      rw [← h1]
      exact o.gens y (List.mem_of_getElem? hs)
  · exact Nat.le_trans (List.length_filter_le _ _) o.len
theorem cancel1_ok {s : St} (o : s.Ok) (h : Hd) : (cancel1 s h).Ok := filter_ok o _ _ s.now o.now (fun t _ => by simp)
theorem cancelW_ok {s : St} (o : s.Ok) (l : List Hd) : (cancelW s l).2.Ok := by
  induction l generalizing s with
  | nil => exact o
  | cons h r ih =>
    unfold cancelW
    split
    · exact ih (cancel1_ok o h)
    · exact ih o
theorem goesTo_le (s : St) (n : Int) : goesTo s n ≤ 1099511627776 := by unfold goesTo; omega
theorem goesTo_ge {s : St} (o : s.Ok) (n : Int) : s.now ≤ goesTo s n := by have := o.now; unfold goesTo; omega
theorem advW_ok {s : St} (o : s.Ok) (n : Int) : (advW s n).2.Ok := by
  refine filter_ok o _ _ _ (goesTo_le s n) (fun t ht => ?_)
  rw [Bool.eq_iff_iff]
  simp only [Bool.and_eq_true, hasT_mem, List.any_eq_true, decide_eq_true_eq, Bool.not_eq_true', decide_eq_false_iff_not]
  constructor
  · rintro ⟨_, x, hx, e, h2⟩
    have := o.eq hx ht e
    subst this
    omega
  · intro h2
    exact ⟨⟨t, ht, rfl⟩, t, ht, rfl, by omega⟩
end Go.Proofs.Ytgmgjkafdkgalaa
