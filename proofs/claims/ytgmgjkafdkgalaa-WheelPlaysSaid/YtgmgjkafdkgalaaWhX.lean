/- The law WheelNext: its walk. -/
import Derived.Test.YtgmgjkafdkgalaaWhU
import Derived.Test.YtgmgjkafdkgalaaRow
import Derived.Test.YtgmgjkafdkgalaaBits
namespace Go.Proofs.Ytgmgjkafdkgalaa
open Go.RowKit Go.Proofs Go.Maps

theorem add_yes (st : St) {a : Nat} (h : a ≤ 1099511627776) (wh : Int) : addW st a wh = (newH st.sb, 0, { st with ord := st.ord + 1, sb := putB st.sb wh, L := st.L ++ [⟨newH st.sb, a, wh, st.ord + 1⟩] }) := by
  unfold addW
  rw [if_pos (by simp [isTime]; omega)]
  rfl
theorem foldl_min (r : List Tm) (m : Nat) : r.foldl (fun m x => min m x.a) m ≤ m ∧ (∀ t ∈ r, r.foldl (fun m x => min m x.a) m ≤ t.a) ∧ (r.foldl (fun m x => min m x.a) m = m ∨ ∃ t ∈ r, r.foldl (fun m x => min m x.a) m = t.a) := by
  induction r generalizing m with
  | nil => exact ⟨Nat.le_refl _, by simp, Or.inl rfl⟩
  | cons x r ih =>
    rw [List.foldl_cons]
    obtain ⟨h1, h2, h3⟩ := ih (min m x.a)
    refine ⟨by omega, fun t ht => ?_, ?_⟩
    · rcases List.mem_cons.1 ht with rfl | ht
      · omega
      · exact h2 t ht
    · rcases h3 with h3 | ⟨t, ht, h3⟩
      · rcases Nat.le_total m x.a with h | h
        · left; rw [h3]; omega
        · right; exact ⟨x, List.mem_cons_self, by rw [h3]; omega⟩
      · right; exact ⟨t, List.mem_cons_of_mem _ ht, h3⟩
theorem next_yes {st : St} (h : st.L ≠ []) : ∃ m : Nat, nextW st = ((m : Int), true) ∧ (∀ t ∈ st.L, m ≤ t.a) ∧ ∃ t ∈ st.L, t.a = m := by
  unfold nextW
  cases hL : st.L with
  | nil => exact absurd hL h
  | cons t r =>
    obtain ⟨h1, h2, h3⟩ := foldl_min r t.a
    refine ⟨_, rfl, fun x hx => ?_, ?_⟩
    · rcases List.mem_cons.1 hx with rfl | hx
      · exact h1
      · exact h2 x hx
    · rcases h3 with h3 | ⟨x, hx, h3⟩
      · exact ⟨t, List.mem_cons_self, h3.symm⟩
      · exact ⟨x, List.mem_cons_of_mem _ hx, h3.symm⟩
theorem adv_early {st : St} {m : Nat} {n : Int} (hg : goesTo st n = m) (h : ∀ t ∈ st.L, m < t.a) : advW st n = ([], { st with now := m }) := by
  unfold advW
  rw [hg, dueL_nil h, show restL m st.L = st.L from by
    rw [restL, List.filter_eq_self]; intro t ht; simpa using h t ht, takeP_none]
  · rfl
  · intro k hk
    rw [Bool.and_eq_true, List.any_eq_true] at hk
    obtain ⟨_, t, ht, h2⟩ := hk
    have := h t ht
    simp at h2
    omega
theorem due_rest (n : Nat) (L : List Tm) : (dueL n L).length + (restL n L).length = L.length := by
  rw [(dueL_perm n L).length_eq, restL]
  induction L with
  | nil => rfl
  | cons t r ih =>
    by_cases h : t.a ≤ n
    · rw [List.filter_cons_of_pos (by simpa using h), List.filter_cons_of_neg (by simp; omega)]
      simp only [List.length_cons]
      omega
    · rw [List.filter_cons_of_neg (by simpa using h), List.filter_cons_of_pos (by simp; omega)]
      simp only [List.length_cons]
      omega
/-- Timers ahead of their time. -/
def Ahead (st : St) : Prop := ∀ t ∈ st.L, st.now < t.a
theorem adv_at {st : St} {m : Nat} (hn : st.now ≤ m) (hm : m ≤ 1099511627776) (h : ∃ t ∈ st.L, t.a = m) : (advW st m).1 ≠ [] ∧ (advW st m).1.length + (advW st m).2.L.length = st.L.length ∧ Ahead (advW st m).2 ∧ (advW st m).2.ord = st.ord := by
  have hg : goesTo st m = m := by unfold goesTo; omega
  refine ⟨fun e => ?_, ?_, ?_, rfl⟩
  · obtain ⟨t, ht, ha⟩ := h
    have h1 : dueL m st.L = [] := by
      unfold advW at e
      rw [hg] at e
      exact List.map_eq_nil_iff.1 e
    have h2 := (mem_dueL (n := m)).2 ⟨ht, by omega⟩
    rw [h1] at h2
    cases h2
  · unfold advW
    rw [hg]
    simp only [List.length_map]
    exact due_rest m st.L
  · intro t ht
    unfold advW at ht ⊢
    rw [hg] at ht ⊢
    exact (mem_restL.1 ht).2
def NxA (w : World) (r n : Nat) (i : Value) (wr : World) : Prop := ∃ (k : Nat) (st : St), k ≤ n ∧ i = .int .i64 k ∧ Own6 w wr No r st ∧ st.L.length = k ∧ st.ord = k ∧ Ahead st ∧ st.now = 0
def NxB (w : World) (r n : Nat) (c i : Value) (wr : World) : Prop := ∃ (k m : Nat) (st : St), k ≤ m ∧ i = .int .i64 k ∧ c = .int .i64 m ∧ Own6 w wr No r st ∧ st.L.length + m = n ∧ st.ord = n ∧ Ahead st
set_option maxRecDepth 100000 in
set_option maxHeartbeats 8000000 in
theorem next6_in (A : Option Addr) (xs : List Int) (cap : Nat) (hlen : xs.length ≤ 60) (w : World) (hA : ∀ k, k < xs.length → ∃ bb off, A = some ⟨bb, off, none⟩ ∧ bb < w.heap.size ∧ w.cell? ⟨bb, off + k, none⟩ = some (.int .i64 (xs.getD k 0))) (hw : ∀ x ∈ xs, (Lit.int .i64 x).wf = true) : Calls Try.prog 5 #[.slice A xs.length cap] w fun e w' => e = .returned (.bool true) ∧ Sm No w w' := by
  have HA := Lib.hid (And.intro hA hw)
  clear hA hw
  go_enter Try.func5, Try.ntmps5
  go_wp2_with fail
  refine (new6 (w := w) (K := No) 0 (by omega) (Sm.refl _ _) (fun _ h => h.elim)).mono ?_
  rintro e w1 ⟨r, rfl, hO, _⟩
  have H1 := Lib.hid hO
  clear hO
  go_wp2_with fail
  go_loopw [5] (fun i wr => NxA w r xs.length i wr) (fun i _ => xs.length - (intOf i).toNat)
  case atStart => exact ⟨0, St.new 0, Nat.zero_le _, rfl, H1.out, rfl, rfl, by simp [Ahead, St.new], rfl⟩
  case round =>
    obtain ⟨k, st, hk, rfl, hO, hL, ho, hah, hnow⟩ := hrel
    have HO := Lib.hid (And.intro hO (And.intro hL (And.intro ho (And.intro hah hnow))))
    clear hO hL ho hah hnow
    by_cases hlt : k < xs.length
    · obtain ⟨bb, off, rfl, hbb, r0⟩ := HA.out.1 k hlt
      have r1 := HO.out.1.sm.cell hbb r0
      obtain ⟨x, hx⟩ : ∃ x, xs.getD k 0 = x := ⟨_, rfl⟩
      rw [hx] at r1
      have hxw : (Lit.int .i64 x).wf = true := by
        rw [← hx]
        refine HA.out.2 _ ?_
        rw [List.getD_eq_getElem?_getD, List.getElem?_eq_getElem hlt]
        exact List.getElem_mem hlt
      clear r0 hx
      have k1 : (0 : Int) ≤ (k : Int) := by omega
      have k2 : (k : Int) < (xs.length : Int) := by omega
      obtain ⟨y, hy, hyb⟩ := and_bd x 1073741823 (by omega)
      have hyb2 : bits .and .i64 x 1073741823 = (y : Int) := hyb
      go_wp2_with fail
      have hc : (1 : Int) + (y : Int) = ((1 + y : Nat) : Int) := by omega
      rw [hc]
      have hadd := add6 ((1 + y : Nat) : Int) k HO.out.1 (by rw [HO.out.2.2.1]; omega)
      rw [add_yes _ (by omega)] at hadd
      unfold hv at hadd
      refine hadd.mono ?_
      rintro e w2 ⟨rfl, hO, _⟩
      have H2 := Lib.hid hO
      clear hO hadd hyb hyb2 hc
      go_wp2_with fail
      refine ⟨⟨k + 1, _, by omega, by go_num, H2.out, ?_, ?_, ?_, ?_⟩, by simp [intOf]; omega⟩
      · show (st.L ++ [_]).length = k + 1
        rw [List.length_append, HO.out.2.1]; rfl
      · show st.ord + 1 = k + 1
        rw [HO.out.2.2.1]
      · intro t ht
        simp only [List.mem_append, List.mem_singleton] at ht
        rcases ht with ht | rfl
        · exact HO.out.2.2.2.1 t ht
        · show st.now < 1 + y
          rw [HO.out.2.2.2.2]; omega
      · exact HO.out.2.2.2.2
    · obtain rfl : k = xs.length := by omega
      go_wp2_with fail
      go_loopw [6, 7] (fun c i wr => NxB w r xs.length c i wr) (fun _ i _ => xs.length + 1 - (intOf i).toNat)
      case atStart => exact ⟨0, 0, st, Nat.le_refl _, rfl, rfl, HO.out.1, HO.out.2.1, HO.out.2.2.1, HO.out.2.2.2.1⟩
      case round =>
        obtain ⟨k, m, st2, hkm, rfl, rfl, hO, hL, ho, hah⟩ := hrel
        have H2 := Lib.hid (And.intro hO (And.intro hL (And.intro ho hah)))
        clear hO hL ho hah
        have hmn : m ≤ xs.length := by have := H2.out.2.1; omega
        have hd : decide ((k : Int) ≤ (xs.length : Int)) = true := by simp; omega
        go_wp2_with fail
        refine (next6 H2.out.1).mono ?_
        rintro e w2 ⟨rfl, hs2⟩
        have H3 := Lib.hid (H2.out.1.no hs2)
        clear hs2
        by_cases hemp : st2.L = []
        · have hml : m = xs.length := by have := H2.out.2.1; rw [hemp] at this; simpa using this
          subst hml
          rw [show nextW st2 = (0, false) by unfold nextW; rw [hemp]]
          go_wp2_with fail
          have hln := len6 H3.out
          rw [hemp] at hln
          refine hln.mono ?_
          rintro e w5 ⟨rfl, rfl⟩
          clear hln
          go_wp2_with fail
          refine (known6_any _).mono ?_
          rintro e w6 ⟨rfl, hs6⟩
          have H6 := Lib.hid (H3.out.sm.trans hs6 (fun _ _ h => h))
          clear hs6
          go_wp2_with fail
          go_ret
          exact ⟨rfl, H6.out⟩
        · obtain ⟨a, hna, hmin, hex⟩ := next_yes hemp
          have ha1 : a ≤ 1099511627776 := by
            obtain ⟨t, ht, e⟩ := hex
            have := H3.out.ok.ats t ht
            omega
          have ha0 : st2.now < a := by
            obtain ⟨t, ht, e⟩ := hex
            have := H2.out.2.2.2 t ht
            omega
          rw [hna]
          have HM := Lib.hid (And.intro hna (And.intro hmin hex))
          clear hna hmin hex
          go_wp2_with fail
          have hadv := adv6 ((a : Int) - 1) H3.out (show st2.ord ≤ 4000 by rw [H2.out.2.2.1]; omega)
          rw [adv_early (m := a - 1) (by unfold goesTo; omega) (fun t ht => by have := HM.out.2.1 t ht; omega)] at hadv
          refine hadv.mono ?_
          rintro e w6 ⟨v6, rfl, hI6, hO, _⟩
          obtain ⟨A6, c6, rfl, _⟩ := hI6.row
          have H6 := Lib.hid (hO.less (K2 := No) (fun _ h => h.elim))
          clear hO hadv hI6
          go_wp2_with fail
          have hadv := adv6 (a : Int) H6.out (show st2.ord ≤ 4000 by rw [H2.out.2.2.1]; omega)
          obtain ⟨e7, e8, e9, e10⟩ := adv_at (st := { st2 with now := a - 1 }) (m := a) (show a - 1 ≤ a by omega) ha1 HM.out.2.2
          obtain ⟨ST, hST⟩ : ∃ ST, advW { st2 with now := a - 1 } (a : Int) = ST := ⟨_, rfl⟩
          rw [hST] at hadv e7 e8 e9 e10
          refine hadv.mono ?_
          rintro e w7 ⟨v7, rfl, hI7, hO, _⟩
          obtain ⟨A7, c7, rfl, _⟩ := hI7.row
          have H7 := Lib.hid (And.intro (hO.less (K2 := No) (fun _ h => h.elim)) (And.intro e9 e10))
          have hne : ST.1.length ≠ 0 := fun e => e7 (List.length_eq_zero_iff.1 e)
          have hsum : ST.1.length + ST.2.L.length + m = xs.length := by have := H2.out.2.1; simp only at e8; omega
          clear hO hadv hI7 e7 e8 e9 e10 hST
          obtain ⟨q, hq⟩ : ∃ q, ST.1.length = q := ⟨_, rfl⟩
          rw [hq] at hne hsum ⊢
          clear hq
          have hq1 : 0 < q := by omega
          go_wp2_with fail
          exact ⟨⟨k + 1, m + q, ST.2, by omega, by go_num, by go_num, H7.out.1, by omega, by rw [H7.out.2.2]; exact H2.out.2.2.1, H7.out.2.1⟩, by simp [intOf]; omega⟩
theorem wnext6_any (A : Option Addr) (len cap : Nat) (zs : List Int) (w : World) (w2 : IsRow .i64 w A len cap zs) :
    Calls Try.prog 5 #[.slice A len cap] w fun e w' => e = .returned (.bool true) ∧ Sm No w w' := by
  by_cases h : 60 < len
  · go_enter Try.func5, Try.ntmps5
    go_wp2_with fail
    go_ret
    exact ⟨rfl, Sm.refl _ _⟩
  · obtain ⟨xs, rfl, hw, hc⟩ := w2.reads
    exact next6_in A xs cap (by omega) w hc hw
end Go.Proofs.Ytgmgjkafdkgalaa
