/- The law WheelDue: its walk. -/
import Derived.Test.YtgmgjkafdkgalaaWhZ
namespace Go.Proofs.Ytgmgjkafdkgalaa
open Go.RowKit Go.Proofs Go.Maps

theorem okH_in {st : St} (o : st.Ok) (ho : st.ord ≤ 4000) {t : Tm} (ht : t ∈ st.L) : okH t.h := by
  have h1 : isB st.sb t.h = true := by rw [o.inS, hasT_mem]; exact ⟨t, ht, rfl⟩
  unfold isB at h1
  rw [Bool.and_eq_true, decide_eq_true_eq] at h1
  obtain ⟨h0, h1⟩ := h1
  cases hx : st.sb[t.h.slot.toNat]? with
  | none => rw [hx] at h1; cases h1
  | some x =>
    rw [hx] at h1
    simp only [Bool.and_eq_true, decide_eq_true_eq] at h1
    have h2 := o.gens x (List.mem_of_getElem? hx)
    obtain ⟨hl, _⟩ := List.getElem?_eq_some_iff.1 hx
    have h3 := o.slots
    exact ⟨wf_small (by omega) (by omega), by rw [← h1.2]; exact wf_small (by omega) (by omega)⟩
/-- n timers of one time, their what the order in which they came. -/
structure Same (st : St) (T n : Nat) : Prop where
  whats : st.L.map (·.what) = (List.range n).map Int.ofNat
  ats : ∀ t ∈ st.L, t.a = T
  ords : st.L.Pairwise fun x y => x.ord < y.ord
  ord : st.ord = n
theorem Same.len {st : St} {T n : Nat} (h : Same st T n) : st.L.length = n := by
  have := congrArg List.length h.whats
  simpa using this
theorem Same.add {st : St} {T n : Nat} (o : st.Ok) (h : Same st T n) (x : Hd) (sb : List Sl) : Same { st with ord := st.ord + 1, sb := sb, L := st.L ++ [⟨x, T, (n : Int), st.ord + 1⟩] } T (n + 1) := by
  refine ⟨?_, fun t ht => ?_, ?_, by show st.ord + 1 = n + 1; rw [h.ord]⟩
  · show (st.L ++ [(⟨x, T, (n : Int), st.ord + 1⟩ : Tm)]).map (·.what) = _
    rw [List.map_append, h.whats, List.range_succ, List.map_append]
    rfl
  · rcases List.mem_append.1 ht with ht | ht
    · exact h.ats t ht
    · rw [List.mem_singleton.1 ht]
  · show (st.L ++ [(⟨x, T, (n : Int), st.ord + 1⟩ : Tm)]).Pairwise _
    rw [List.pairwise_append]
    refine ⟨h.ords, List.pairwise_singleton _ _, fun x hx y hy => ?_⟩
    rw [List.mem_singleton.1 hy]
    have := o.ords x hx
    show x.ord < st.ord + 1
    omega
theorem setT_first {t : Tm} {r : List Tm} {a o : Nat} (h : ∀ x ∈ r, x.h ≠ t.h) : setT (t :: r) t.h a o = { t with a := a, ord := o } :: r := by
  unfold setT
  rw [List.map_cons, if_pos rfl]
  congr 1
  conv => rhs; rw [← List.map_id r]
  apply List.map_congr_left
  intro x hx
  rw [if_neg (h x hx)]; rfl
/-- The first set anew to the same time: it comes last. -/
theorem due_turned {st : St} {T n : Nat} (o : st.Ok) (h : Same st T n) (hn : 0 < n) (hT : T ≤ 1099511627776) : ∃ k r, st.L = k :: r ∧ (resetW st k.h T).1 = 0 ∧ (resetW st k.h T).2.now = st.now ∧ (resetW st k.h T).2.ord = n + 1 ∧ (∀ t ∈ (resetW st k.h T).2.L, t.a = T) ∧
    (dueL T (resetW st k.h T).2.L).map (·.what) = (List.range (n - 1)).map (fun i => ((i + 1 : Nat) : Int)) ++ [0] := by
  cases hL : st.L with
  | nil => have := h.len; rw [hL] at this; simp at this; omega
  | cons k r =>
    have hone := o.one
    rw [hL, List.pairwise_cons] at hone
    have hords := h.ords
    rw [hL, List.pairwise_cons] at hords
    have hR := setT_first (a := T) (o := st.ord + 1) (fun x hx e => hone.1 x hx e.symm : ∀ x ∈ r, x.h ≠ k.h)
    have hres : resetW st k.h T = (0, { st with ord := st.ord + 1, L := { k with a := T, ord := st.ord + 1 } :: r }) := by
      unfold resetW
      rw [if_pos (by simp [isTime]; omega), if_pos (by rw [hasT_mem]; exact ⟨k, by rw [hL]; exact List.mem_cons_self, rfl⟩), hL, Int.toNat_natCast, hR]
    have hok := resetW_ok o k.h (T : Int)
    rw [hres] at hok
    have hats : ∀ t ∈ ({ k with a := T, ord := st.ord + 1 } :: r : List Tm), t.a = T := fun t ht => by
      rcases List.mem_cons.1 ht with rfl | ht
      · rfl
      · exact h.ats t (by rw [hL]; exact List.mem_cons_of_mem _ ht)
    refine ⟨k, r, rfl, ?_⟩
    rw [hres]
    refine ⟨rfl, rfl, by show st.ord + 1 = n + 1; rw [h.ord], hats, ?_⟩
    have hd : r ++ [{ k with a := T, ord := st.ord + 1 }] = dueL T ({ k with a := T, ord := st.ord + 1 } :: r) := by
      refine dueL_unique hok.apart ?_ ?_
      · rw [List.filter_eq_self.2 (fun t ht => by have := hats t ht; simp; omega)]
        exact List.perm_append_singleton _ _
      · rw [List.pairwise_append]
        refine ⟨?_, List.pairwise_singleton _ _, fun x hx y hy => ?_⟩
        · refine List.Pairwise.imp_of_mem (fun {x y} hx hy e => ?_) hords.2
          have e1 := hats x (List.mem_cons_of_mem _ hx)
          have e2 := hats y (List.mem_cons_of_mem _ hy)
          simp [leT]; omega
        · rw [List.mem_singleton.1 hy]
          have e1 := hats x (List.mem_cons_of_mem _ hx)
          have e2 := o.ords x (by rw [hL]; exact List.mem_cons_of_mem _ hx)
          simp [leT]; omega
    show (dueL T ({ k with a := T, ord := st.ord + 1 } :: r)).map (·.what) = _
    rw [← hd, List.map_append]
    have hw := h.whats
    obtain ⟨m, rfl⟩ : ∃ m, n = m + 1 := ⟨n - 1, by omega⟩
    rw [hL, List.map_cons, List.range_succ_eq_map, List.map_cons, List.map_map] at hw
    injection hw with hw1 hw2
    rw [hw2]
    show _ ++ [k.what] = _
    rw [hw1]
    rfl
theorem cancel_none {st : St} (h : st.L = []) (l : List Hd) : (cancelW st l).1 = 0 := by
  induction l with
  | nil => rfl
  | cons x r ih =>
    unfold cancelW
    rw [if_neg (by simp [hasT, h])]
    exact ih
theorem Own6.re {w w1 w2 : World} {K : Nat → Prop} {r : Nat} {st : St} (h : Own6 w w1 K r st) {S K2 : Nat → Prop} (hs : Sm S w1 w2) (hS : ∀ b, S b → K b) (hf : ∀ b, S b → w.heap.size ≤ b) (hK : ∀ b, K2 b → (K b ∨ w1.heap.size ≤ b) ∧ b < w2.heap.size) : Own6 w w2 K2 r st := by
  obtain ⟨O1, h1, h3, h4, h7⟩ := h
  refine ⟨O1, h1.sm hs (fun b hb e => (h7 b (hS b e)).2 hb), ((h3.any _).trans hs (fun b _ e => e)).mono (fun b hb e => by have := hf b e; omega), h4, fun b hb => ?_⟩
  refine ⟨(hK b hb).2, fun e => ?_⟩
  rcases (hK b hb).1 with hb | hb
  · exact (h7 b hb).2 e
  · have := h1.below e; omega
theorem hCells_append (l m : List Hd) : hCells (l ++ m) = hCells l ++ hCells m := by simp [hCells]
def OwnH (w : World) (B : Nat) (v : Value) (l : List Hd) : Prop := w.ownsRow B 29 2 v l.length (hCells l)
def DuR (w : World) (r now T n : Nat) (lv i : Value) (wr : World) : Prop := ∃ (k : Nat) (st : St) (hl : List Hd), k ≤ n ∧ i = .int .i64 k ∧ hl = st.L.map (·.h) ∧ OwnH wr w.heap.size lv hl ∧ Own6 w wr (fun b => lv.ownBlock = some b) r st ∧ Same st T k ∧ st.now = now
def DuL (w : World) (n : Nat) (i : Value) (wr : World) : Prop := ∃ k : Nat, k ≤ n ∧ i = .int .i64 k ∧ Sm No w wr
set_option maxRecDepth 100000 in
set_option maxHeartbeats 8000000 in
theorem due6_any (now n a b : Int) (_ : (Lit.int .i64 now).wf = true) (_ : (Lit.int .i64 n).wf = true) (_ : (Lit.int .i64 a).wf = true) (_ : (Lit.int .i64 b).wf = true) (w : World) : Calls Try.prog 7 #[.int .i64 now, .int .i64 n, .int .i64 a, .int .i64 b] w fun e w' => e = .returned (.bool true) ∧ Sm No w w' := by
  go_enter Try.func7, Try.ntmps7
  go_wp2_with fail
  all_goals try ((with_reducible refine (known6_any _).mono ?_); rintro e w1 ⟨rfl, hs1⟩; have H1 := Lib.hid hs1; clear hs1; go_wp2_with fail; go_ret; exact ⟨rfl, H1.out⟩)
  have c0 : 0 ≤ now := by omega
  have c1 : now ≤ 549755813888 := by omega
  have c2 : 1 ≤ a := by omega
  have c3 : a ≤ 1073741824 := by omega
  have c4 : 1 ≤ n := by omega
  have c5 : n ≤ 50 := by omega
  have c6 : 0 ≤ b := by omega
  have c7 : b < a := by omega
  obtain ⟨now, rfl⟩ := Int.eq_ofNat_of_zero_le c0
  obtain ⟨a, rfl⟩ := Int.eq_ofNat_of_zero_le (show 0 ≤ a by omega)
  obtain ⟨n, rfl⟩ := Int.eq_ofNat_of_zero_le (show 0 ≤ n by omega)
  obtain ⟨b, rfl⟩ := Int.eq_ofNat_of_zero_le c6
  refine (new6 (w := w) (K := No) now (by omega) (Sm.refl _ _) (fun _ h => h.elim)).mono ?_
  rintro e w1 ⟨r, rfl, hO, _⟩
  have H1 := Lib.hid hO
  clear hO
  go_wp2_with fail
  obtain ⟨T, hT⟩ : ∃ T, now + a = T := ⟨_, rfl⟩
  have hTi : (now : Int) + (a : Int) = (T : Int) := by omega
  have hTb : T ≤ 1099511627776 := by omega
  go_loopw [11, 12] (fun lv i wr => DuR w r now T n lv i wr) (fun _ i _ => n - (intOf i).toNat)
  case atStart => exact ⟨0, St.new now, [], Nat.zero_le _, rfl, rfl, World.ownsRow_nil _ _ _ _, H1.out.less (fun b hb => by cases hb), ⟨rfl, by simp [St.new], by simp [St.new], rfl⟩, rfl⟩
  case round =>
    obtain ⟨k, st, hl, hk, rfl, hhl, hI, hO, hS, hno⟩ := hrel
    obtain ⟨A1, c1, rfl, _⟩ := own_rowC hI
    have hlk : hl.length = k := by rw [hhl, List.length_map]; exact hS.len
    have HO := Lib.hid (And.intro hI (And.intro hO (And.intro hS (And.intro hno (And.intro hhl hlk)))))
    clear hI hO hS hno hhl hlk
    by_cases hlt : k < n
    · go_wp2_with fail
      have hadd := add6 (T : Int) k HO.out.2.1 (by rw [HO.out.2.2.1.ord]; omega)
      rw [add_yes _ hTb] at hadd
      unfold hv at hadd
      obtain ⟨hd, hhd⟩ : ∃ hd, newH st.sb = hd := ⟨_, rfl⟩
      rw [hhd] at hadd
      refine hadd.mono ?_
      rintro e w2 ⟨rfl, hO, hs2⟩
      have hS2 := HO.out.2.2.1.add HO.out.2.1.ok hd (putB st.sb (k : Int))
      obtain ⟨ST, hST⟩ : ∃ ST : St, ST = { st with ord := st.ord + 1, sb := putB st.sb (k : Int), L := st.L ++ [⟨hd, T, (k : Int), st.ord + 1⟩] } := ⟨_, rfl⟩
      rw [← hST] at hS2 hO
      have hSL : hl ++ [hd] = ST.L.map (·.h) := by rw [hST, HO.out.2.2.2.2.1]; simp
      have hSn : ST.now = now := by rw [hST]; exact HO.out.2.2.2.1
      have hown := own_row_sm HO.out.1 hs2 (fun b e h => h e)
      have hown2 := own_row_sm hown (((Sm.refl No w2).alloc (.cells #[.int .i64 hd.slot, .int .i64 hd.gen] 29)).alloc (.cells #[.int .i64 hd.slot, .int .i64 hd.gen] 29)) (fun b e h => h)
      have hbk : Bk ((w2.alloc (.cells #[.int .i64 hd.slot, .int .i64 hd.gen] 29)).alloc (.cells #[.int .i64 hd.slot, .int .i64 hd.gen] 29)) (w2.heap.size + 1) 29 #[.int .i64 hd.slot, .int .i64 hd.gen] := Bk.newAt _ _ _ (by simp)
      have hlen : hl.length ≤ 1000000 := by rw [HO.out.2.2.2.2.2]; omega
      have hbb := Nat.le_trans HO.out.2.1.sm.size hs2.size
      have HE := Lib.hid (And.intro hown2 (And.intro hbk (And.intro hlen (And.intro hbb (And.intro hO (And.intro hS2 (And.intro hSL (And.intro hSn hown))))))))
      clear hown hown2 hbk hlen hbb hO hS2 hSL hSn hST hadd hs2 hhd
      go_wp2_with (refine wpList_push rfl (.tmp 76) (.tmp 78) 43 29 rfl Try.underlying43 _ 2 16 infoHd rfl (by decide) (by decide) w.heap.size hl.length _ (hCells hl) rfl HE.out.1 (w2.heap.size + 1) #[.int .i64 hd.slot, .int .i64 hd.gen] rfl HE.out.2.1 rfl (by simp [Value.oneCell']) HE.out.2.2.1 (by have := HE.out.2.2.2.1; simp; omega) ?_; intro v5 w5 hown5 hs5 hv5)
      have hI5 : OwnH w5 w.heap.size v5 (hl ++ [hd]) := by
        unfold OwnH
        rw [List.length_append, hCells_append]
        exact hown5
      have hO5 := HE.out.2.2.2.2.1.re (K2 := fun b => v5.ownBlock = some b) ((((Sm.refl No w2).alloc (.cells #[.int .i64 hd.slot, .int .i64 hd.gen] 29)).alloc (.cells #[.int .i64 hd.slot, .int .i64 hd.gen] 29)).any (fun b => (Value.slice A1 hl.length c1).ownBlock = some b) |>.trans hs5 (fun b _ e => e)) (fun b e => e) (fun b e => row_base HE.out.2.2.2.2.2.2.2.2 e) (fun b hb => ⟨by
        rcases hv5 with e | e
        · exact Or.inl (e.symm.trans hb)
        · right
          have hb' : v5.ownBlock = some b := hb
          rw [e] at hb'
          injection hb' with hb'
          simp at hb'
          omega, own_row_lt hI5 hb⟩)
      exact ⟨⟨k + 1, ST, hl ++ [hd], by omega, by go_num, HE.out.2.2.2.2.2.2.1, hI5, hO5, HE.out.2.2.2.2.2.1, HE.out.2.2.2.2.2.2.2.1⟩, by simp [intOf]; omega⟩
    · obtain rfl : k = n := by omega
      obtain ⟨t0, rr, eL, e1, e2, e3, e4, e5⟩ := due_turned HO.out.2.1.ok HO.out.2.2.1 (by omega) hTb
      have hok := okH_in HO.out.2.1.ok (by rw [HO.out.2.2.1.ord]; omega) (show t0 ∈ st.L by rw [eL]; exact List.mem_cons_self)
      have ehl : hl = t0.h :: rr.map (·.h) := by rw [HO.out.2.2.2.2.1, eL]; rfl
      rcases own_row_form HO.out.1 with ⟨_, e0, _⟩ | ⟨g, cap, e, hg, hB, hgl, hc, hcell, hfz⟩
      · have := HO.out.2.2.2.2.2; omega
      injection e with ea _ ecap
      subst ea
      subst ecap
      have q0 := hcell 0 (.int .i64 t0.h.slot) (by rw [ehl]; rfl)
      have q1 := hcell 1 (.int .i64 t0.h.gen) (by rw [ehl]; rfl)
      have hres := reset6 t0.h (T : Int) HO.out.2.1 hok (by rw [HO.out.2.2.1.ord]; omega)
      obtain ⟨ST, hST⟩ : ∃ ST, (resetW st t0.h T).2 = ST := ⟨_, rfl⟩
      rw [e1, hST] at hres
      rw [hST] at e2 e3 e4 e5
      unfold hv at hres
      have HR := Lib.hid (And.intro e2 (And.intro e3 (And.intro e4 (And.intro e5 hok))))
      have hkl := HO.out.2.2.2.2.2
      have k0 : 0 < k := by omega
      rw [hkl]
      clear e2 e3 e4 e5 hok hST e1 ehl hcell hfz hc eL
      go_wp2_with fail
      refine hres.mono ?_
      rintro e w3 ⟨rfl, hO, hs3⟩
      have hr3 := own_row_sm HO.out.1 hs3 (fun b e h => h e)
      have H3 := Lib.hid (And.intro hO hr3)
      clear hO hs3 hr3 hres q0 q1
      go_wp2_with fail
      have hnb : (now : Int) + (b : Int) = ((now + b : Nat) : Int) := by omega
      have hadv := adv6 ((now + b : Nat) : Int) H3.out.1 (by rw [HR.out.2.1]; omega)
      rw [adv_early (m := now + b) (by have := HR.out.1; have := HO.out.2.2.2.1; unfold goesTo; omega) (fun t ht => by have := HR.out.2.2.1 t ht; omega)] at hadv
      rw [← hnb] at hadv
      refine hadv.mono ?_
      rintro e w4 ⟨v4, rfl, hI4, hO4, hs4⟩
      obtain ⟨A4, c4, rfl, _⟩ := hI4.row
      have hr4 := own_row_sm H3.out.2 hs4 (fun b e h => h e)
      have H4 := Lib.hid (And.intro (hO4.less (K2 := fun b => (Value.slice (some ⟨g, 0, none⟩) hl.length c1).ownBlock = some b) (fun b h => Or.inl h)) hr4)
      clear hadv hI4 hO4 hs4 hr4 hnb
      go_wp2_with fail
      have hadv := adv6 (T : Int) H4.out.1 (by show ST.ord ≤ 4000; rw [HR.out.2.1]; omega)
      obtain ⟨g1, g2⟩ := adv_all (st := { ST with now := now + b }) (m := T) (show now + b ≤ T by omega) hTb (fun t ht => by have := HR.out.2.2.1 t ht; omega)
      rw [g1, show whatsL T ({ ST with now := now + b } : St).L = _ from HR.out.2.2.2.1] at hadv
      refine hadv.mono ?_
      rintro e w5 ⟨v5, rfl, hI5, hO5, hs5⟩
      have hr5 := own_row_sm H4.out.2 hs5 (fun b e h => h e)
      obtain ⟨SU, hSU⟩ : ∃ SU, (advW { ST with now := now + b } (T : Int)).2 = SU := ⟨_, rfl⟩
      have hSo : SU.ord = k + 1 := by rw [← hSU]; exact HR.out.2.1
      rw [hSU] at g2 hO5
      obtain ⟨D, hD⟩ : ∃ D, (List.range (k - 1)).map (fun i => ((i + 1 : Nat) : Int)) ++ [0] = D := ⟨_, rfl⟩
      have hDl : D.length = k := by rw [← hD]; simp; omega
      have hD0 : D[k - 1]? = some 0 := by rw [← hD, List.getElem?_append_right (by simp)]; simp
      have hDi : ∀ i, i + 1 < k → D[i]? = some ((i + 1 : Nat) : Int) := fun i hi => by
        rw [← hD, List.getElem?_append_left (by simp; omega), List.getElem?_map, List.getElem?_range (by omega)]; rfl
      rw [hD] at hI5
      have hrow := hI5
      obtain ⟨A5, c5, rfl, _⟩ := hI5.row
      have H5 := Lib.hid (And.intro (hO5.less (K2 := fun b => (Value.slice (some ⟨g, 0, none⟩) hl.length c1).ownBlock = some b) (fun b h => Or.inl h)) (And.intro hr5 (And.intro g2 hSo)))
      rcases own_row_form hrow with ⟨_, e0, _⟩ | ⟨g5, cap5, e, _, _, hgl5, _, hcell5, _⟩
      · omega
      injection e with ea _ _
      subst ea
      have HD := Lib.hid (And.intro hcell5 (And.intro hDi hDl))
      have hk1 : (k : Int) - 1 = ((k - 1 : Nat) : Int) := by omega
      have p0 := hcell5 (k - 1) (.int .i64 0) (by rw [List.getElem?_map, hD0]; rfl)
      obtain ⟨kk, hkk⟩ : ∃ kk, k - 1 = kk := ⟨_, rfl⟩
      have hkk2 : k = kk + 1 := by omega
      rw [hkk] at hk1 p0
      clear hadv hI5 hO5 hs5 hr5 g1 g2 hSU hSo hrow hcell5 hDi hD hD0
      rw [hDl]
      clear hDl hkk
      go_wp2_with fail
      go_loopw [16] (fun i wr => DuL w5 kk i wr) (fun i _ => kk - (intOf i).toNat)
      case atStart => exact ⟨0, Nat.zero_le _, rfl, Sm.refl _ _⟩
      case round =>
        obtain ⟨i, hi, rfl, hs⟩ := hrel
        have HS := Lib.hid hs
        clear hs
        by_cases hlt : i < kk
        · have p1 := HS.out.cell hgl5 (HD.out.1 i (.int .i64 ((i : Int) + 1)) (by rw [List.getElem?_map, HD.out.2.1 i (by omega)]; rfl))
          have i0 : (0 : Int) ≤ (i : Int) := by omega
          have i1 : (i : Int) < (kk : Int) + 1 := by omega
          clear p0
          go_wp2_with fail
          exact ⟨⟨i + 1, by omega, by go_num, HS.out⟩, by simp [intOf]; omega⟩
        · obtain rfl : i = kk := by omega
          clear p0
          go_wp2_with fail
          have hln := len6 (H5.out.1.no HS.out)
          rw [H5.out.2.2.1] at hln
          refine hln.mono ?_
          rintro e w6 ⟨rfl, rfl⟩
          clear hln
          go_wp2_with fail
          obtain ⟨A6, cc6, e6, hR6, _⟩ := own_rowC (own_row_sm H5.out.2.1 HS.out (fun b _ h => h))
          injection e6 with ea _ ec
          subst ea
          have hcan := cancel6 (some ⟨g, 0, none⟩) cc6 hl (H5.out.1.no HS.out) hR6 (fun a e => by
            injection e with e
            subst e
            rw [← hg]) (by rw [HO.out.2.2.2.2.2]; omega) (fun h hh => by
            rw [HO.out.2.2.2.2.1] at hh
            obtain ⟨t, ht, rfl⟩ := List.mem_map.1 hh
            exact okH_in HO.out.2.1.ok (by rw [HO.out.2.2.1.ord]; omega) ht) (by rw [H5.out.2.2.2]; omega)
          rw [cancel_none H5.out.2.2.1, HO.out.2.2.2.2.2, hkk2, ← ec] at hcan
          with_reducible refine hcan.mono ?_
          rintro e w7 ⟨rfl, hO7, _⟩
          have H7 := Lib.hid hO7.sm
          clear hcan hO7 hR6
          go_wp2_with fail
          refine (known6_any _).mono ?_
          rintro e w8 ⟨rfl, hs8⟩
          have H8 := Lib.hid (H7.out.trans hs8 (fun _ _ h => h))
          clear hs8
          go_wp2_with fail
          go_ret
          exact ⟨rfl, H8.out⟩
end Go.Proofs.Ytgmgjkafdkgalaa
