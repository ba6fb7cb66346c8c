/- Len, Now, Where, Next. -/
import Derived.Test.YtgmgjkafdkgalaaWhI
namespace Go.Proofs.Ytgmgjkafdkgalaa
open Go.RowKit Go.Proofs Go.Maps

theorem mapLen {w : World} {b : Nat} {l : List (Hd × Value)} (h : MapL w b l) (ty : TypeId) : (Builtin.len_ #[68] ty #[.map (some b)]).run Try.prog w = .ok (.int .i64 l.length) w := h.len Try.underlying68 ty
theorem wlen_any (w : World) (O : Nat → Prop) (r : Nat) (st : St) (hW : IsWheel w O r st) :
    Calls Try.prog 15 #[.pointer (some ⟨r, 0, none⟩)] w fun e w' => e = .returned (.int .i64 st.L.length) ∧ w' = w := by
  obtain ⟨Os, s, tm, mb, T, h1, h2, h3, h4, h5, h6⟩ := hW
  have c3 := h1.bk.at 3 (v := .map (some tm)) rfl
  have hl := mapLen h1.tms 3
  have e : (keysT T).length = st.L.length := by rw [← h2.length_eq]; simp [keysT]
  rw [e] at hl
  clear h1 h2 h3 h4 h5 h6 e
  go_enter Try.func15, Try.ntmps15
  go_wp2_with fail
  go_ret
  exact ⟨rfl, rfl⟩
theorem wnow_any (w : World) (O : Nat → Prop) (r : Nat) (st : St) (hW : IsWheel w O r st) :
    Calls Try.prog 27 #[.pointer (some ⟨r, 0, none⟩)] w fun e w' => e = .returned (.int .i64 st.now) ∧ w' = w := by
  obtain ⟨Os, s, tm, mb, T, h1, h2, h3, h4, h5, h6⟩ := hW
  have c3 := h1.bk.at 0 (v := .int .i64 st.now) rfl
  clear h1 h2 h3 h4 h5 h6
  go_enter Try.func27, Try.ntmps27
  go_wp2_with fail
  go_ret
  exact ⟨rfl, rfl⟩
theorem findT_tb {st : St} {T : List Tb} (o : st.Ok) (p : (T.map (·.t)).Perm st.L) {x : Tb} (hx : x ∈ T) : findT st x.t.h = some x.t := by
  have hm : x.t ∈ st.L := p.mem_iff.1 (List.mem_map.2 ⟨x, hx, rfl⟩)
  unfold findT
  cases hf : st.L.find? (fun t => decide (t.h = x.t.h)) with
  | none =>
    rw [List.find?_eq_none] at hf
    exact absurd (by simp) (hf x.t hm)
  | some y =>
    have h1 := List.mem_of_find?_eq_some hf
    have h2 := List.find?_some hf
    rw [o.eq h1 hm (by simpa using h2)]
theorem findT_none {st : St} {h : Hd} (hh : hasT st h = false) : findT st h = none := by
  unfold findT
  rw [List.find?_eq_none]
  intro t ht e
  have := hasT_mem.2 ⟨t, ht, by simpa using e⟩
  rw [hh] at this
  cases this
def whereV (p : Int × Int × Int) : Value := .tuple #[.int .i64 p.1, .int .i64 p.2.1, .int .i64 p.2.2]
set_option maxRecDepth 100000 in
set_option maxHeartbeats 4000000 in
theorem where_any (w : World) (O : Nat → Prop) (r : Nat) (st : St) (h : Hd) (hW : IsWheel w O r st) (ok : okH h) :
    Calls Try.prog 16 #[.pointer (some ⟨r, 0, none⟩), hv h] w fun e w' => e = .returned (whereV (whereW st h)) ∧ Sm No w w' := by
  cases hh : hasT st h
  · have e : whereW st h = (0, 0, 10) := by unfold whereW; rw [findT_none hh]
    rw [e]
    obtain ⟨Os, s, tm, mb, T, h1, h2, h3, h4, h5, h6⟩ := id hW
    have hs0 := (Sm.refl No w).alloc (.cells #[.int .i64 h.slot, .int .i64 h.gen] 29)
    have hl := laysLook (h1.tms.sm hs0 (fun h => h)) ok (getV_none (T := T) (fun x hx e => by
      have := (hasT_tb h2 h).2 ⟨x, hx, e⟩
      rw [hh] at this; cases this) (.pointer none))
    have c3 := h1.bk.at 3 (v := .map (some tm)) rfl
    have hrl := h1.bk.lt
    have H := Lib.hid hs0
    clear h1 h2 h3 h4 h5 h6 hW hs0 e hh
    unfold hv
    go_enter Try.func16, Try.ntmps16
    go_wp2_with fail
    go_quiet (fail)
    go_wp2_with fail
    go_ret3
    exact ⟨rfl, H.out.drewN _⟩
  · obtain ⟨Os, s, tm, mb, T, h1, h2, h3, h4, h5, h6⟩ := id hW
    obtain ⟨x, hx, hxh⟩ := (hasT_tb h2 h).1 hh
    subst hxh
    have e : whereW st x.t.h = ((x.p.1 : Int), (x.p.2 : Int), 0) := by unfold whereW; rw [findT_tb h4 h2 hx, h3 x hx]
    rw [e]
    have hs0 := (Sm.refl No w).alloc (.cells #[.int .i64 x.t.h.slot, .int .i64 x.t.h.gen] 29)
    have hl := laysLook (h1.tms.sm hs0 (fun h => h)) ok (getV_keys h1 hx (.pointer none))
    have c3 := h1.bk.at 3 (v := .map (some tm)) rfl
    have r3 := (h1.tb x hx).at 3 (v := .int .i64 x.p.1) rfl
    have r4 := (h1.tb x hx).at 4 (v := .int .i64 x.p.2) rfl
    have hrl := h1.bk.lt
    have hbl := (h1.tb x hx).lt
    have H := Lib.hid hs0
    obtain ⟨hd, hhd⟩ : ∃ hd, x.t.h = hd := ⟨_, rfl⟩
    rw [hhd] at hl H ⊢
    have hl2 : ∀ n1 nq, (Instr.lookup 68 (.map (some tm)) (.agg #[.int .i64 hd.slot, .int .i64 hd.gen]) false).run Try.prog (((w.alloc (.cells #[.int .i64 hd.slot, .int .i64 hd.gen] 29)).drewN n1).drewN nq) = .ok (.pointer (some ⟨x.b, 0, none⟩)) (((w.alloc (.cells #[.int .i64 hd.slot, .int .i64 hd.gen] 29)).drewN n1).drewN nq) := fun n1 nq => by
      have := laysLook ((h1.tms.sm hs0 (fun h => h)).sm ((Sm.refl No _).drewN n1) (fun h => h)) ok (getV_keys h1 hx (.pointer none)) nq
      rw [hhd] at this
      exact this
    clear h1 h2 h3 h4 h5 h6 hW hs0 e hh hx hhd
    unfold hv
    go_enter Try.func16, Try.ntmps16
    go_wp2_with fail
    go_quiet (fail)
    go_wp2_with fail
    go_quiet (fail)
    go_wp2_with fail
    go_quiet (fail)
    go_wp2_with fail
    go_ret3
    exact ⟨rfl, ((H.out.drewN _).drewN _).drewN _⟩

/-- The least time of those that have come. -/
def Least (T : List Tb) (vs : List Hd) (a b : Value) : Prop :=
  (vs = [] ∧ a = .int .i64 0 ∧ b = .bool false) ∨ (∃ x ∈ T, x.t.h ∈ vs ∧ a = .int .i64 x.t.a ∧ b = .bool true ∧ ∀ y ∈ T, y.t.h ∈ vs → x.t.a ≤ y.t.a)
def NextRel (w : World) (tm rI : Nat) (T : List Tb) (a b : Value) (wr : World) : Prop :=
  ∃ vs cnt, RangeL wr tm rI (keysT T) vs cnt ∧ Sm No w wr ∧ Least T vs a b
theorem fold_min (l : List Tm) (m : Nat) : l.foldl (fun m x => min m x.a) m ≤ m ∧ (∀ t ∈ l, l.foldl (fun m x => min m x.a) m ≤ t.a) ∧ (l.foldl (fun m x => min m x.a) m = m ∨ ∃ t ∈ l, l.foldl (fun m x => min m x.a) m = t.a) := by
  induction l generalizing m with
  | nil => exact ⟨Nat.le_refl _, by simp, Or.inl rfl⟩
  | cons t r ih =>
    obtain ⟨h1, h2, h3⟩ := ih (min m t.a)
    rw [List.foldl_cons]
    refine ⟨by omega, fun y hy => ?_, ?_⟩
    · rcases List.mem_cons.1 hy with rfl | hy
      · omega
      · exact h2 y hy
    · rcases h3 with h3 | ⟨y, hy, h3⟩
      · rw [h3]
        by_cases e : m ≤ t.a
        · exact Or.inl (by omega)
        · exact Or.inr ⟨t, by simp, by omega⟩
      · exact Or.inr ⟨y, by simp [hy], h3⟩
theorem nextW_of {st : St} {T : List Tb} {vs : List Hd} {a b : Value} (p : (T.map (·.t)).Perm st.L) (hp : vs.Perm ((keysT T).map Prod.fst)) (h : Least T vs a b) : a = .int .i64 (nextW st).1 ∧ b = .bool (nextW st).2 := by
  have hv : ∀ y ∈ T, y.t.h ∈ vs := fun y hy => hp.mem_iff.2 (List.mem_map.2 ⟨(y.t.h, .pointer (some ⟨y.b, 0, none⟩)), List.mem_map.2 ⟨y, hy, rfl⟩, rfl⟩)
  unfold nextW
  rcases h with ⟨h1, rfl, rfl⟩ | ⟨x, hx, hxv, rfl, rfl, hmin⟩
  · subst h1
    have hT : T = [] := by
      cases T with
      | nil => rfl
      | cons y R => exact absurd (hv y (by simp)) (by simp)
    subst hT
    have : st.L = [] := by simpa using p.symm
    rw [this]
    exact ⟨rfl, rfl⟩
  · cases hL : st.L with
    | nil =>
      rw [hL] at p
      have := p.length_eq
      cases T with
      | nil => cases hx
      | cons y R => simp at this
    | cons t r =>
      refine ⟨?_, rfl⟩
      obtain ⟨h1, h2, h3⟩ := fold_min r t.a
      have hmem : ∀ z, z ∈ st.L ↔ ∃ y ∈ T, y.t = z := fun z => by rw [← p.mem_iff, List.mem_map]
      have hxm : x.t ∈ t :: r := by rw [← hL]; exact (hmem _).2 ⟨x, hx, rfl⟩
      have hle : ∀ z ∈ t :: r, x.t.a ≤ z.a := fun z hz => by
        obtain ⟨y, hy, rfl⟩ := (hmem z).1 (by rw [hL]; exact hz)
        exact hmin y hy (hv y hy)
      congr 2
      have e1 : r.foldl (fun m x => min m x.a) t.a ≤ x.t.a := by
        rcases List.mem_cons.1 hxm with e | e
        · rw [e]; exact h1
        · exact h2 _ e
      have e2 : x.t.a ≤ r.foldl (fun m x => min m x.a) t.a := by
        rcases h3 with h3 | ⟨y, hy, h3⟩
        · rw [h3]; exact hle t (by simp)
        · rw [h3]; exact hle y (by simp [hy])
      omega
set_option maxRecDepth 100000 in
set_option maxHeartbeats 4000000 in
theorem next_any (w : World) (O : Nat → Prop) (r : Nat) (st : St) (hW : IsWheel w O r st) :
    Calls Try.prog 17 #[.pointer (some ⟨r, 0, none⟩)] w fun e w' => e = .returned (.tuple #[.int .i64 (nextW st).1, .bool (nextW st).2]) ∧ Sm No w w' := by
  obtain ⟨Os, s, tm, mb, T, h1, h2, h3, h4, h5, h6⟩ := hW
  have c3 := h1.bk.at 3 (v := .map (some tm)) rfl
  have H := Lib.hid (And.intro h1 h2)
  have htm := h1.tms.lt
  clear h1 h2 h3 h4 h5 h6
  go_enter Try.func17, Try.ntmps17
  go_wp2_with (first | (at_range; refine wpList_range_L rfl _ _ _ rfl Try.underlying68 tm (keysT T) rfl H.out.1.tms ?_; intro w0 rI hrI hrg0 hs0) | fail)
  go_frame
  have HR := Lib.hid (And.intro hrI (And.intro hrg0 hs0))
  clear hrI hrg0 hs0 c3 htm
  go_loopw [4, 5] (fun a b wr => NextRel w tm rI T a b wr) (fun _ _ wr => wr.rangeLeft tm rI)
  case atStart => exact ⟨[], _, HR.out.2.1, HR.out.2.2, Or.inl ⟨rfl, rfl, rfl⟩⟩
  case round =>
    obtain ⟨vs, cnt, hrg, hs, hL⟩ := hrel
    have HS := Lib.hid (And.intro hrg (And.intro hs hL))
    clear hrg hs hL
    go_wp2_with (first | (at_next; refine wpList_next_L rfl _ rfl tm rI cnt (keysT T) vs rfl HS.out.1 ?_ ?_) | fail)
    · intro _ hp
      obtain ⟨e1, e2⟩ := nextW_of H.out.2 hp HS.out.2.2
      subst e1 e2
      clear hp
      go_wp2_with fail
      go_ret2
      exact ⟨rfl, HS.out.2.1⟩
    · intro k v w1 cnt1 hkv hnv hrg1 hlt hs1 hen
      obtain ⟨x, hx, e⟩ := List.mem_map.1 hkv
      injection e with e1 e2
      subst e1 e2
      have hsm : Sm No w w1 := ((HS.out.2.1.any _).trans hs1 (fun _ _ e => e)).mono (fun b hb e => by have := HR.out.1; omega)
      have r0 := ((H.out.1.tb x hx).sm hsm (fun h => h)).at 0 (v := .int .i64 x.t.a) rfl
      have hbl := ((H.out.1.tb x hx).sm hsm (fun h => h)).lt
      unfold hv at hen
      have HN := Lib.hid (And.intro hrg1 (And.intro hlt (And.intro hsm (And.intro hkv hnv))))
      have hmeas : w1.rangeLeft tm rI < wr.rangeLeft tm rI := by rw [hrg1.left, HS.out.1.left]; exact hlt
      have HM := Lib.hid hmeas
      clear hmeas hrg1 hlt hs1 hsm hkv hnv
      rcases HS.out.2.2 with ⟨hv0, rfl, rfl⟩ | ⟨y, hy, hyv, rfl, rfl, hmin⟩
      · have hnew : Least T (vs ++ [x.t.h]) (.int .i64 x.t.a) (.bool true) := Or.inr ⟨x, hx, by simp, rfl, rfl, fun y hy hyv => by
          rw [hv0] at hyv
          have := H.out.1.eqh hy hx (by simpa using hyv)
          subst this
          exact Nat.le_refl _⟩
        have HL := Lib.hid hnew
        clear hnew hv0
        go_wp2_with fail
        exact ⟨⟨_, _, HN.out.1, HN.out.2.2.1, HL.out⟩, HM.out⟩
      · obtain ⟨m, hm⟩ : ∃ m, y.t.a = m := ⟨_, rfl⟩
        by_cases hc : x.t.a < m
        · have hnew : Least T (vs ++ [x.t.h]) (.int .i64 x.t.a) (.bool true) := Or.inr ⟨x, hx, by simp, rfl, rfl, fun z hz hzv => by
            rcases List.mem_append.1 hzv with hzv | hzv
            · have := hmin z hz hzv; omega
            · have := H.out.1.eqh hz hx (by simpa using hzv)
              subst this
              exact Nat.le_refl _⟩
          have HL := Lib.hid hnew
          have hd : decide ((x.t.a : Int) < (m : Int)) = true := by simpa using hc
          have hd2 : decide (x.t.a < m) = true := by simpa using hc
          rw [hm]
          clear hnew hmin hm hc
          go_wp2_with fail
          exact ⟨⟨_, _, HN.out.1, HN.out.2.2.1, HL.out⟩, HM.out⟩
        · have hnew : Least T (vs ++ [x.t.h]) (.int .i64 m) (.bool true) := Or.inr ⟨y, hy, by simp [hyv], by rw [hm], rfl, fun z hz hzv => by
            rcases List.mem_append.1 hzv with hzv | hzv
            · exact hmin z hz hzv
            · have := H.out.1.eqh hz hx (by simpa using hzv)
              subst this
              omega⟩
          have HL := Lib.hid hnew
          have hd : decide ((x.t.a : Int) < (m : Int)) = false := by simp; omega
          have hd2 : decide (x.t.a < m) = false := by simp; omega
          rw [hm]
          clear hnew hmin hm hc
          go_wp2_with fail
          exact ⟨⟨_, _, HN.out.1, HN.out.2.2.1, HL.out⟩, HM.out⟩
end Go.Proofs.Ytgmgjkafdkgalaa
