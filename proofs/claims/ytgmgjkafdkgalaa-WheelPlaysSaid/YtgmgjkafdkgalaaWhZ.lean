/- The law WheelSteps: its walk. -/
import Derived.Test.YtgmgjkafdkgalaaWhY
import Derived.Test.YtgmgjkafdkgalaaOwnAny
namespace Go.Proofs.Ytgmgjkafdkgalaa
open Go.RowKit Go.Proofs Go.Maps

def whatsL (n : Nat) (L : List Tm) : List Int := (dueL n L).map (·.what)
def StA (w : World) (r1 r2 n now : Nat) (la i : Value) (wr : World) : Prop := ∃ (k l : Nat) (st : St), k ≤ n ∧ i = .int .i64 k ∧ la = .int .i64 l ∧ Two w wr No r1 st r2 st ∧ st.L.length = k ∧ st.ord = k ∧ st.now = now ∧ now ≤ l ∧ l ≤ now + 1073741823 ∧ ∀ t ∈ st.L, t.a ≤ l
def StB (w : World) (r1 r2 n la : Nat) (st : St) (lv t i : Value) (wr : World) : Prop := ∃ (k m : Nat) (ls : List Int) (st1 : St), k ≤ n ∧ i = .int .i64 k ∧ t = .int .i64 m ∧ OwnI wr w.heap.size lv ls ∧ Two w wr (fun b => lv.ownBlock = some b) r1 st1 r2 st ∧ st1.now = m ∧ m ≤ la ∧ ls ++ whatsL la st1.L = whatsL la st.L ∧ st1.ord = st.ord ∧ ∀ t ∈ st1.L, t.a ≤ la
theorem adv_step {st : St} (o : st.Ok) {m la : Nat} (h1 : st.now ≤ m) (h2 : m ≤ la) (h3 : m ≤ 1099511627776) : (advW st (m : Int)).2.now = m ∧ whatsL la st.L = (advW st (m : Int)).1 ++ whatsL la (advW st (m : Int)).2.L ∧ (advW st (m : Int)).2.ord = st.ord ∧ ∀ t ∈ (advW st (m : Int)).2.L, t ∈ st.L := by
  have hg : goesTo st (m : Int) = m := by unfold goesTo; omega
  unfold advW
  rw [hg]
  refine ⟨rfl, ?_, rfl, fun t ht => (mem_restL.1 ht).1⟩
  unfold whatsL
  rw [dueL_split o.apart h2, List.map_append]
theorem whats_le (n : Nat) (L : List Tm) : (whatsL n L).length ≤ L.length := by
  have := due_rest n L
  unfold whatsL
  rw [List.length_map]
  omega
theorem whats_eq {n : Nat} {L : List Tm} (h : ∀ t ∈ L, t.a ≤ n) : (whatsL n L).length = L.length := by
  have := due_rest n L
  rw [restL_nil h] at this
  unfold whatsL
  rw [List.length_map]
  simpa using this
theorem adv_all {st : St} {m : Nat} (h1 : st.now ≤ m) (h3 : m ≤ 1099511627776) (h : ∀ t ∈ st.L, t.a ≤ m) : (advW st (m : Int)).1 = whatsL m st.L ∧ (advW st (m : Int)).2.L = [] := by
  have hg : goesTo st (m : Int) = m := by unfold goesTo; omega
  unfold advW
  rw [hg]
  exact ⟨rfl, restL_nil h⟩
theorem OwnI.join {w : World} {B : Nat} {v : Value} {l m : List Int} (h : w.ownsRow B 3 1 v (l.length + m.length) (intV l ++ intV m)) : OwnI w B v (l ++ m) := by
  unfold OwnI
  rw [List.length_append, List.map_append]
  exact h
/-- The row l has grown; the wheels are as they were. -/
theorem Two.grown {w w1 w2 : World} {K : Nat → Prop} {r1 r2 : Nat} {st1 st2 : St} {v v' : Value} {B : Nat} {l : List Int} (h : Two w w1 K r1 st1 r2 st2) (hv : ∀ b, v.ownBlock = some b → K b) (hB : ∀ b, v.ownBlock = some b → w.heap.size ≤ b) (hs : Sm (fun b => v.ownBlock = some b) w1 w2) (hv' : v'.ownBlock = v.ownBlock ∨ v'.ownBlock = some w1.heap.size) (hI : OwnI w2 B v' l) : Two w w2 (fun b => v'.ownBlock = some b) r1 st1 r2 st2 := by
  refine h.re hs hv hB (fun b hb => ⟨?_, own_row_lt hI hb⟩)
  rcases hv' with e | e
  · exact Or.inl (hv b (by rw [← e]; exact hb))
  · right
    have hb' : v'.ownBlock = some b := hb
    rw [e] at hb'
    injection hb' with hb'
    omega
set_option maxRecDepth 100000 in
set_option maxHeartbeats 8000000 in
theorem steps6_in (now : Nat) (hnow : now ≤ 549755813888) (A C : Option Addr) (xs cs : List Int) (capA capC : Nat) (hlen : xs.length ≤ 100) (hlenC : cs.length ≤ 100) (w : World) (hA : ∀ k, k < xs.length → ∃ bb off, A = some ⟨bb, off, none⟩ ∧ bb < w.heap.size ∧ w.cell? ⟨bb, off + k, none⟩ = some (.int .i64 (xs.getD k 0)))
    (hC : ∀ k, k < cs.length → ∃ bb off, C = some ⟨bb, off, none⟩ ∧ bb < w.heap.size ∧ w.cell? ⟨bb, off + k, none⟩ = some (.int .i64 (cs.getD k 0))) (hw : ∀ x ∈ xs, (Lit.int .i64 x).wf = true) (hwC : ∀ x ∈ cs, (Lit.int .i64 x).wf = true) : Calls Try.prog 3 #[.int .i64 now, .slice A xs.length capA, .slice C cs.length capC] w fun e w' => e = .returned (.bool true) ∧ Sm No w w' := by
  have HA := Lib.hid (And.intro hA hw)
  have HC := Lib.hid (And.intro hC hwC)
  clear hA hw hC hwC
  go_enter Try.func3, Try.ntmps3
  go_wp2_with fail
  refine (new6 (w := w) (K := No) now (by omega) (Sm.refl _ _) (fun _ h => h.elim)).mono ?_
  rintro e w1 ⟨r1, rfl, hO, _⟩
  have H1 := Lib.hid hO
  clear hO
  go_wp2_with fail
  refine (two_new now (by omega) H1.out).mono ?_
  rintro e w2 ⟨r2, rfl, hO⟩
  have H2 := Lib.hid hO
  clear hO
  go_wp2_with fail
  go_loopw [11, 12] (fun la i wr => StA w r1 r2 xs.length now la i wr) (fun _ i _ => xs.length - (intOf i).toNat)
  case atStart => exact ⟨0, now, St.new now, Nat.zero_le _, rfl, rfl, H2.out, rfl, rfl, rfl, Nat.le_refl _, by omega, by simp [St.new]⟩
  case round =>
    obtain ⟨k, l, st, hk, rfl, rfl, hO, hL, ho, hno, hl0, hl1, hat⟩ := hrel
    have HO := Lib.hid (And.intro hO (And.intro hL (And.intro ho (And.intro hno hat))))
    clear hO hL ho hno hat
    by_cases hlt : k < xs.length
    · obtain ⟨bb, off, rfl, hbb, r0⟩ := HA.out.1 k hlt
      have r3 := HO.out.1.sm.cell hbb r0
      obtain ⟨x, hx⟩ : ∃ x, xs.getD k 0 = x := ⟨_, rfl⟩
      rw [hx] at r3
      have hxw : (Lit.int .i64 x).wf = true := by
        rw [← hx]
        refine HA.out.2 _ ?_
        rw [List.getD_eq_getElem?_getD, List.getElem?_eq_getElem hlt]
        exact List.getElem_mem hlt
      clear r0 hx
      have k1 : (0 : Int) ≤ (k : Int) := by omega
      have k2 : (k : Int) < (xs.length : Int) := by omega
      obtain ⟨y, hy, hyb⟩ := and_bd x 1073741823 (by omega)
      have hyb2 : bits .and .i64 x 1073741823 = (y : Int) := hyb
      clear hyb
      go_wp2_with fail
      have hc : (now : Int) + (y : Int) = ((now + y : Nat) : Int) := by omega
      rw [hc]
      have hadd := two_add ((now + y : Nat) : Int) k HO.out.1 (by rw [HO.out.2.2.1]; omega)
      rw [add_yes _ (by omega)] at hadd
      unfold hv at hadd
      refine hadd.mono ?_
      rintro e w3 ⟨rfl, hO, _⟩
      have H3 := Lib.hid hO
      clear hO hadd hyb2 hc
      go_wp2_with fail
      have hc : (now : Int) + (y : Int) = ((now + y : Nat) : Int) := by omega
      rw [hc]
      have hadd := two_add ((now + y : Nat) : Int) k H3.out.swap (by rw [HO.out.2.2.1]; omega)
      rw [add_yes _ (by omega)] at hadd
      unfold hv at hadd
      refine hadd.mono ?_
      rintro e w4 ⟨rfl, hO, _⟩
      have H4 := Lib.hid hO.swap
      clear hO hadd hc
      have hmx : max (l : Int) ((now : Int) + (y : Int)) = ((max l (now + y) : Nat) : Int) := by omega
      obtain ⟨mx, hmx2⟩ : ∃ mx, max l (now + y) = mx := ⟨_, rfl⟩
      rw [hmx2] at hmx
      try rw [hmx]
      go_wp2_with fail
      try rw [hmx]
      refine ⟨⟨k + 1, mx, _, by omega, by go_num, rfl, H4.out, ?_, ?_, ?_, by omega, by omega, ?_⟩, by simp [intOf]; omega⟩
      · show (st.L ++ [_]).length = k + 1
        rw [List.length_append, HO.out.2.1]; rfl
      · show st.ord + 1 = k + 1
        rw [HO.out.2.2.1]
      · exact HO.out.2.2.2.1
      · intro t ht
        simp only [List.mem_append, List.mem_singleton] at ht
        rcases ht with ht | rfl
        · have := HO.out.2.2.2.2 t ht; omega
        · show now + y ≤ mx
          omega
    · obtain rfl : k = xs.length := by omega
      go_wp2_with fail
      go_loopw [14, 15, 16] (fun lv t i wr => StB w r1 r2 cs.length l st lv t i wr) (fun _ _ i _ => cs.length - (intOf i).toNat)
      case atStart => exact ⟨0, now, [], st, Nat.zero_le _, rfl, rfl, World.ownsRow_nil _ _ _ _, HO.out.1.re (Sm.refl No _) (fun _ h => h.elim) (fun _ h => h.elim) (fun b hb => by cases hb), HO.out.2.2.2.1, hl0, rfl, rfl, HO.out.2.2.2.2⟩
      case round =>
        obtain ⟨k, m, ls, st1, hk, rfl, rfl, hI, hT, hnw, hml, hls, hod, hat⟩ := hrel
        have HI := Lib.hid (And.intro hI (And.intro hT (And.intro hnw (And.intro hls (And.intro hod hat)))))
        clear hI hT hnw hls hod hat
        by_cases hlt : k < cs.length
        · obtain ⟨bb, off, rfl, hbb, r0⟩ := HC.out.1 k hlt
          have r3 := HI.out.2.1.sm.cell hbb r0
          obtain ⟨x, hx⟩ : ∃ x, cs.getD k 0 = x := ⟨_, rfl⟩
          rw [hx] at r3
          have hxw : (Lit.int .i64 x).wf = true := by
            rw [← hx]
            refine HC.out.2 _ ?_
            rw [List.getD_eq_getElem?_getD, List.getElem?_eq_getElem hlt]
            exact List.getElem_mem hlt
          clear r0 hx
          have k1 : (0 : Int) ≤ (k : Int) := by omega
          have k2 : (k : Int) < (cs.length : Int) := by omega
          obtain ⟨y, hy, hyb⟩ := and_bd x 67108863 (by omega)
          have hyb2 : bits .and .i64 x 67108863 = (y : Int) := hyb
          clear hyb
          have hmx : min (l : Int) ((m : Int) + (y : Int)) = ((min l (m + y) : Nat) : Int) := by omega
          obtain ⟨mx, hmx2⟩ : ∃ mx, min l (m + y) = mx := ⟨_, rfl⟩
          rw [hmx2] at hmx
          go_wp2_with fail
          have hadv := two_adv (mx : Int) HI.out.2.1 (by rw [HI.out.2.2.2.2.1, HO.out.2.2.1]; omega)
          refine hadv.mono ?_
          rintro e w3 ⟨v3, rfl, hI3, hT3, hs3⟩
          have hown := own_row_sm HI.out.1 hs3 (fun b e h => h e)
          obtain ⟨A3, c3, rfl, hR3, hle3, hn3⟩ := own_rowC hI3
          obtain ⟨AV, hAV⟩ : ∃ AV, advW st1 (mx : Int) = AV := ⟨_, rfl⟩
          rw [hAV] at hI3 hT3 hR3 hle3 ⊢
          have hn3' : A3 = none → AV.1.length = 0 ∧ c3 = 0 := fun e => by have := hn3 e; omega
          obtain ⟨g1, g2, g3, g4⟩ := adv_step (la := l) HI.out.2.1.one.ok (m := mx) (by rw [HI.out.2.2.1]; omega) (by omega) (by omega)
          rw [hAV] at g1 g2 g3 g4
          have g5 := whats_le l st.L
          have g6 := HI.out.2.2.2.1
          rw [g2, ← List.append_assoc] at g6
          have g7 := congrArg List.length g6
          rw [List.length_append, List.length_append] at g7
          rw [HO.out.2.1] at g5
          have hlen3 : ls.length ≤ 1000 := by omega
          have hlen4 : AV.1.length ≤ 1000 := by omega
          have HE := Lib.hid (And.intro hown (And.intro hR3 (And.intro hn3' (And.intro hI3 (And.intro hT3 (And.intro hlen3 (And.intro hlen4 (Nat.le_trans HI.out.2.1.sm.size hs3.size))))))))
          have HG := Lib.hid (And.intro g1 (And.intro g6 (And.intro g3 g4)))
          clear g1 g2 g3 g4 g5 g6 g7 hAV
          clear hadv hown hI3 hT3 hs3 hR3 hn3' hle3 hn3 hlen3 hlen4
          go_wp2_with (refine wpList_push_opt rfl _ _ 22 3 rfl Try.underlying22 _ 1 8 infoIn rfl (by decide) (by decide) w.heap.size ls.length _ (intV ls) rfl HE.out.1 A3 AV.1.length c3 (intV AV.1) rfl HE.out.2.2.1 (by simp [intV]) HE.out.2.1 (by simp [intV, Value.oneCell']) (by have := HE.out.2.2.2.2.2.1; have := HE.out.2.2.2.2.2.2.1; omega) HE.out.2.2.2.2.2.2.2 ?_; intro v4 w4 hown4 hs4 hv4)
          have hI4 := OwnI.join hown4
          have hT4 := HE.out.2.2.2.2.1.grown (fun b e => Or.inl e) (fun b e => row_base HE.out.1 e) hs4 hv4 hI4
          refine ⟨⟨k + 1, mx, _, _, by omega, by go_num, rfl, hI4, hT4, HG.out.1, by omega, HG.out.2.1, ?_, fun t ht => HI.out.2.2.2.2.2 t (HG.out.2.2.2 t ht)⟩, by simp [intOf]; omega⟩
          rw [HG.out.2.2.1]; exact HI.out.2.2.2.2.1
        · obtain rfl : k = cs.length := by omega
          go_wp2_with fail
          have hadv := two_adv (l : Int) HI.out.2.1 (by rw [HI.out.2.2.2.2.1, HO.out.2.2.1]; omega)
          refine hadv.mono ?_
          rintro e w3 ⟨v3, rfl, hI3, hT3, hs3⟩
          have hown := own_row_sm HI.out.1 hs3 (fun b e h => h e)
          obtain ⟨A3, c3, rfl, hR3, hle3, hn3⟩ := own_rowC hI3
          obtain ⟨g1, g2⟩ := adv_all (m := l) (by rw [HI.out.2.2.1]; omega) (by omega) HI.out.2.2.2.2.2
          obtain ⟨AV, hAV⟩ : ∃ AV, advW st1 (l : Int) = AV := ⟨_, rfl⟩
          rw [hAV] at hI3 hT3 hR3 hle3 g1 g2 ⊢
          have hn3' : A3 = none → AV.1.length = 0 ∧ c3 = 0 := fun e => by have := hn3 e; omega
          have g5 := whats_eq HO.out.2.2.2.2
          rw [HO.out.2.1] at g5
          have g6 := HI.out.2.2.2.1
          rw [← g1] at g6
          have g7 := congrArg List.length g6
          rw [List.length_append, g5] at g7
          have HG := Lib.hid (And.intro g2 (And.intro g6 g7))
          have hlen3 : ls.length ≤ 1000 := by omega
          have hlen4 : AV.1.length ≤ 1000 := by omega
          have HE := Lib.hid (And.intro hown (And.intro hR3 (And.intro hn3' (And.intro hI3 (And.intro hT3 (And.intro hlen3 (And.intro hlen4 (Nat.le_trans HI.out.2.1.sm.size hs3.size))))))))
          clear hadv hown hI3 hT3 hs3 hR3 hn3' hle3 hn3 hlen3 hlen4 g1 g2 g5 g6 g7 hAV
          go_wp2_with (refine wpList_push_opt rfl _ _ 22 3 rfl Try.underlying22 _ 1 8 infoIn rfl (by decide) (by decide) w.heap.size ls.length _ (intV ls) rfl HE.out.1 A3 AV.1.length c3 (intV AV.1) rfl HE.out.2.2.1 (by simp [intV]) HE.out.2.1 (by simp [intV, Value.oneCell']) (by have := HE.out.2.2.2.2.2.1; have := HE.out.2.2.2.2.2.2.1; omega) HE.out.2.2.2.2.2.2.2 ?_; intro v4 w4 hown4 hs4 hv4)
          have hI4 := OwnI.join hown4
          have hT4 := HE.out.2.2.2.2.1.grown (fun b e => Or.inl e) (fun b e => row_base HE.out.1 e) hs4 hv4 hI4
          rw [HG.out.2.1] at hI4
          have hadv := two_adv (l : Int) hT4.swap (by rw [HO.out.2.2.1]; omega)
          rw [(adv_all (st := st) (m := l) (by rw [HO.out.2.2.2.1]; omega) (by omega) HO.out.2.2.2.2).1] at hadv
          refine hadv.mono ?_
          rintro e w5 ⟨v5, rfl, hI5, hT5, hs5⟩
          have hI4' := own_row_sm hI4 hs5 (fun b e h => h e)
          obtain ⟨A4, c4, rfl, hR4, _⟩ := own_rowC hI4'
          obtain ⟨A5, c5, rfl, hR5, _⟩ := own_rowC hI5
          have hle := whats_eq HO.out.2.2.2.2
          rw [HO.out.2.1] at hle
          have H5 := Lib.hid (And.intro hT5 (And.intro hR4 (And.intro hR5 hle)))
          clear hown4 hs4 hv4 hI4 hT4 hadv hI5 hT5 hs5 hI4' hR4 hR5 hle
          go_wp2_with fail
          refine (ints6_any _ A4 A5 c4 c5 (whatsL l st.L) H5.out.2.1 H5.out.2.2.1 (by rw [H5.out.2.2.2]; omega)).mono ?_
          rintro e w6 ⟨rfl, hs6⟩
          have H6 := Lib.hid (H5.out.1.no hs6)
          clear hs6
          rw [H5.out.2.2.2]
          go_wp2_with fail
          have hln := len6 H6.out.swap.one
          rw [HG.out.1] at hln
          refine hln.mono ?_
          rintro e w7 ⟨rfl, rfl⟩
          clear hln
          go_wp2_with fail
          refine (known6_any _).mono ?_
          rintro e w8 ⟨rfl, hs8⟩
          have H8 := Lib.hid (H6.out.sm.trans hs8 (fun _ _ h => h))
          clear hs8
          go_wp2_with fail
          go_ret
          exact ⟨rfl, H8.out⟩
theorem steps6_any (n : Int) (A : Option Addr) (lenA capA : Nat) (zs : List Int) (C : Option Addr) (lenC capC : Nat) (ys : List Int) (w : World) (_ : (Lit.int .i64 n).wf = true) (w1 : IsRow .i64 w A lenA capA zs) (w2 : IsRow .i64 w C lenC capC ys) :
    Calls Try.prog 3 #[.int .i64 n, .slice A lenA capA, .slice C lenC capC] w fun e w' => e = .returned (.bool true) ∧ Sm No w w' := by
  by_cases h : n < 0 ∨ 549755813888 < n ∨ 100 < (lenA : Int) ∨ 100 < (lenC : Int)
  · go_enter Try.func3, Try.ntmps3
    go_wp2_with fail
    all_goals first
      | ((with_reducible refine (known6_any _).mono ?_); rintro e w1 ⟨rfl, hs1⟩; have H1 := Lib.hid hs1; clear hs1; go_wp2_with fail; go_ret; exact ⟨rfl, H1.out⟩)
      | (exfalso; omega)
  · obtain ⟨xs, rfl, hw, hc⟩ := w1.reads
    obtain ⟨cs, rfl, hw2, hc2⟩ := w2.reads
    obtain ⟨n, rfl⟩ := Int.eq_ofNat_of_zero_le (show 0 ≤ n by omega)
    exact steps6_in n (by omega) A C xs cs capA capC (by omega) (by omega) w hc hc2 hw hw2
end Go.Proofs.Ytgmgjkafdkgalaa
