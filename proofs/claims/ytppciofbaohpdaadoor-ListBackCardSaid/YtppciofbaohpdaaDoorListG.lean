/- Parameters: list's Params. -/
import Derived.Test.YtppciofbaohpdaaDoorListF
namespace Go.Proofs.YtppciofbaohpdaaDoor
open Go.RowKit Go.Proofs

abbrev Par := List UInt8 × List UInt8
def parCells (l : List Par) : List Value := l.flatMap fun p => [strV p.1, strV p.2]
theorem parCells_snoc (l : List Par) (p : Par) : parCells (l ++ [p]) = parCells l ++ [strV p.1, strV p.2] := by simp [parCells]
theorem parCells_len (l : List Par) : (parCells l).length = l.length * 2 := by
  induction l with
  | nil => rfl
  | cons x l ih => simp only [parCells, List.flatMap_cons, List.length_append, List.length_cons, List.length_nil] at ih ⊢; omega
theorem parCells_at (l : List Par) (k : Nat) (h : k < l.length) : (parCells l)[k * 2]? = some (strV l[k].1) ∧ (parCells l)[k * 2 + 1]? = some (strV l[k].2) := by
  induction l generalizing k with
  | nil => exact absurd h (by simp)
  | cons x l ih =>
    cases k with
    | zero => exact ⟨rfl, rfl⟩
    | succ k =>
      have := ih k (by simpa using h)
      have e1 : (k + 1) * 2 = (k * 2) + 2 := by omega
      have e2 : parCells (x :: l) = [strV x.1, strV x.2] ++ parCells l := rfl
      rw [e1, e2]
      simpa using this
/-- v is a slice of a block of its own, not before block B, that holds just these parameters. -/
def OwnP (t : TypeId) (w : World) (B : Nat) (v : Value) (l : List Par) : Prop := w.ownsRow B t 2 v l.length (parCells l)
theorem OwnP.no {t : TypeId} {w w' : World} {B : Nat} {v : Value} {l : List Par} (h : OwnP t w B v l) (hs : Sm No w w') : OwnP t w' B v l := own_row_sm h hs (fun _ _ h => h)
def ParamsPost (t : TypeId) (s : ByteArray) (w : World) (e : Ending) (w' : World) : Prop :=
  (∃ r v, paramsL s.data.toList = some r ∧ e = .returned (.tuple #[v, .bool true]) ∧ OwnP t w' w.heap.size v r ∧ r.length ≤ 16 ∧ Sm No w w') ∨
  (paramsL s.data.toList = none ∧ e = .returned (.tuple #[.slice none 0 0, .bool false]) ∧ Sm No w w')

theorem quoteL_n {l : List UInt8} (h : (quoteL l).2 ≠ 0) : 0 < (quoteL l).2 ∧ (quoteL l).2 ≤ l.length := ⟨by omega, (quoteL_cut (a := (quoteL l).1) (n := (quoteL l).2) rfl h).1⟩
theorem paramR_len {n l r : List UInt8} {p : Par} (h : paramR n l = some (p, r)) : r.length ≤ l.length := by
  cases l with
  | nil => simp only [paramR, Option.some.injEq, Prod.mk.injEq] at h; rw [← h.2]; exact Nat.le_refl _
  | cons d s =>
    rw [paramR] at h
    split at h
    · split at h
      · split at h
        · cases h
        · simp only [Option.some.injEq, Prod.mk.injEq] at h; rw [← h.2]; simp; omega
      · simp only [Option.some.injEq, Prod.mk.injEq] at h; rw [← h.2]; simp; omega
    · simp only [Option.some.injEq, Prod.mk.injEq] at h; rw [← h.2]; exact Nat.le_refl _
theorem paramL_len {l r : List UInt8} {p : Par} (h : paramL l = some (p, r)) : r.length < l.length := by
  cases l with
  | nil => simp [paramL] at h
  | cons c l =>
    rw [paramL] at h
    split at h
    · split at h
      · cases h
      · have h1 := paramR_len h
        have h2 := dropL_le l
        simp at h1 ⊢; omega
    · cases h

theorem paramsF_end {k : Nat} {acc : List Par} {s : List UInt8} (h : dropL s = []) : paramsF (k + 1) acc s = some acc := by rw [paramsF, if_pos h]
theorem paramsF_none {k : Nat} {acc : List Par} {s : List UInt8} (h : dropL s ≠ []) (hp : paramL (dropL s) = none) : paramsF (k + 1) acc s = none := by rw [paramsF, if_neg h, hp]
theorem paramsF_full {acc : List Par} {s : List UInt8} {x : Par × List UInt8} (h : dropL s ≠ []) (hp : paramL (dropL s) = some x) : paramsF 1 acc s = none := by rw [paramsF, if_neg h, hp]; rfl
theorem paramsF_some {k : Nat} {acc : List Par} {s r : List UInt8} {p : Par} (h : dropL s ≠ []) (hp : paramL (dropL s) = some (p, r)) (hk : k ≠ 0) : paramsF (k + 1) acc s = paramsF k (acc ++ [p]) r := by rw [paramsF, if_neg h, hp]; show (if k = 0 then none else _) = _; rw [if_neg hk]

def ParRel (t : TypeId) (s0 : ByteArray) (w : World) (s l : Value) (wr : World) : Prop :=
  ∃ (x : ByteArray) (acc : List Par), s = .string x ∧ x.size ≤ 1000000 ∧ acc.length ≤ 16 ∧ paramsL s0.data.toList = paramsF (17 - acc.length) acc x.data.toList ∧ OwnP t wr w.heap.size l acc ∧ Sm No w wr

theorem infoPar : (Tryd.prog.info? 84).map (fun i => (i.zero, i.size, i.bytes)) = some (some (.agg #[.string ⟨#[]⟩, .string ⟨#[]⟩]), 2, 32) := by kernel_rfl

set_option maxRecDepth 100000 in
set_option maxHeartbeats 8000000 in
theorem params_any (s0 : ByteArray) (hs0 : s0.size ≤ 1000000) (w : World) : Calls Tryd.prog 31 #[.string s0] w (ParamsPost 84 s0 w) := by
  go_enter Tryd.func31, Tryd.ntmps31
  go_wp2_with fail
  go_loopw [0, 4] (fun s l wr => ParRel 84 s0 w s l wr) (fun s _ _ => strLen s)
  case atStart => exact ⟨s0, [], rfl, hs0, by simp, rfl, World.ownsRow_nil _ _ _ 2, Sm.refl _ _⟩
  case round =>
    obtain ⟨x, acc, rfl, hx, hacc, hP, hO, hsm⟩ := hrel
    obtain ⟨r, hr⟩ : ∃ r, (⟨(dropL x.data.toList).toArray⟩ : ByteArray) = r := ⟨_, rfl⟩
    have hrd : r.data.toList = dropL x.data.toList := by rw [← hr]
    have hrx : r.size ≤ x.size := by
      rw [size_toList', size_toList', hrd]
      exact dropL_le _
    obtain ⟨k, hk⟩ : ∃ k, 17 - acc.length = k + 1 := ⟨16 - acc.length, by omega⟩
    rw [hk] at hP
    have HR := Lib.hid hr
    have HP := Lib.hid (And.intro hP (And.intro hO (And.intro hsm hrd)))
    clear hr hP hO hsm hrd
    go_wp2_with fail
    refine (trimLeft_say HR _).mono ?_
    rintro e w1 ⟨rfl, hs1⟩
    have HW := Lib.hid (And.intro (own_row_sm HP.out.2.1 hs1 (fun _ _ h => h)) (HP.out.2.2.1.trans hs1 (fun _ _ h => h)))
    clear hs1
    by_cases h0 : r.size = 0
    · obtain ⟨g1, g2⟩ := str_nil h0
      have hp : paramsL s0.data.toList = some acc := by rw [HP.out.1, paramsF_end (by rw [← HP.out.2.2.2]; exact (nil_iff r).2 h0)]
      have HE := Lib.hid hp
      clear hp
      go_wp2_with fail
      go_ret2
      exact Or.inl ⟨acc, _, HE.out, rfl, HW.out.1, hacc, HW.out.2⟩
    · obtain ⟨g1, g2⟩ := str_cons h0
      have hne : dropL x.data.toList ≠ [] := by rw [← HP.out.2.2.2]; exact fun e => h0 ((nil_iff r).1 e)
      have HN := Lib.hid hne
      clear hne
      go_wp2_with fail
      refine (param_any r (by omega) _).mono ?_
      rintro e w2 ⟨hs2, hcase⟩
      have HW2 := Lib.hid (And.intro (own_row_sm HW.out.1 hs2 (fun _ _ h => h)) (HW.out.2.trans hs2 (fun _ _ h => h)))
      clear hs2
      rcases hcase with ⟨hno, a, b, q, rfl⟩ | ⟨a, b, q, hyes, rfl⟩
      · have hp : paramsL s0.data.toList = none := by rw [HP.out.1, paramsF_none HN.out (by rw [← HP.out.2.2.2]; exact hno)]
        have HE := Lib.hid hp
        clear hp hno
        go_wp2_with fail
        go_ret2
        exact Or.inr ⟨HE.out, rfl, HW2.out.2.alloc _⟩
      · have hql : q.size < r.size := by
          rw [size_toList', size_toList' r]
          exact paramL_len hyes
        rw [HP.out.2.2.2] at hyes
        obtain ⟨A4, c4, rfl, _⟩ := own_rowC HW2.out.1
        by_cases h16 : acc.length = 16
        · have hp : paramsL s0.data.toList = none := by
            have e : k = 0 := by omega
            subst e
            rw [HP.out.1, paramsF_full HN.out hyes]
          have HE := Lib.hid hp
          have h16' : (((acc.length : Nat) : Int) == 16) = true := by rw [h16]; rfl
          clear hp hyes
          go_wp2_with fail
          go_ret2
          exact Or.inr ⟨HE.out, rfl, HW2.out.2.alloc _⟩
        · have hp : paramsL s0.data.toList = paramsF (17 - (acc ++ [(a.data.toList, b.data.toList)]).length) (acc ++ [(a.data.toList, b.data.toList)]) q.data.toList := by
            rw [HP.out.1, paramsF_some HN.out hyes (by omega)]
            congr 1
            simp; omega
          have HE := Lib.hid hp
          have h16' : (((acc.length : Nat) : Int) == 16) = false := by simp; omega
          clear hp hyes
          go_wp2_with (refine wpList_push rfl _ _ 53 84 rfl Tryd.underlying53 _ 2 32 infoPar rfl (by decide) (by decide) w.heap.size _ (.slice A4 acc.length c4) _ rfl (World.ownsRow.alloc (World.ownsRow.alloc HW2.out.1 _) _) _ #[.string a, .string b] rfl (Bk.newAt _ _ _ (by simp)) rfl (by simp [Value.oneCell']) (by omega) (by have := HW2.out.2.size; simp; omega) ?_; intro v' w5 hown5 hs5 hv5)
          have hO5 : OwnP 84 w5 w.heap.size v' (acc ++ [(a.data.toList, b.data.toList)]) := by
            unfold OwnP
            rw [parCells_snoc, List.length_append]
            exact hown5
          have hS5 : Sm No w w5 := (((HW2.out.2.alloc (.cells #[.string a, .string b] 84)).alloc (.cells #[.string a, .string b] 84))).trans hs5 (fun b hb e => by
            have := (World.ownsRow.lt HW2.out.1 b e).1
            omega)
          have H5 := Lib.hid (And.intro hO5 hS5)
          clear hO5 hS5 hown5 hs5 hv5
          go_wp2_with fail
          exact ⟨⟨q, acc ++ [(a.data.toList, b.data.toList)], rfl, by omega, by simp; omega, HE.out, H5.out.1, H5.out.2⟩, by simp [strLen]; omega⟩
end Go.Proofs.YtppciofbaohpdaaDoor
