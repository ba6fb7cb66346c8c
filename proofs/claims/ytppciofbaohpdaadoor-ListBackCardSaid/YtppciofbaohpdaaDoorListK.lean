/- usherlaw9.known; the walks of ListQuoted, ListParams. -/
import Derived.Test.YtppciofbaohpdaaDoorListJ
namespace Go.Proofs.YtppciofbaohpdaaDoor
open Go.RowKit Go.Proofs

def kv1 : List ByteArray := [⟨#[97, 44, 32, 44, 66]⟩, ⟨#[99]⟩]
def kp1 : ByteArray := ⟨#[59, 32, 120, 61, 49, 59, 121, 61, 34, 97, 92, 34, 98, 34]⟩
theorem known_tok : tokensL (bytesL kv1) = some [[97], [98], [99]] := by kernel_rfl
theorem known_par : paramsL kp1.data.toList = some [([120], [49]), ([121], [97, 34, 98])] := by kernel_rfl
theorem Bk.rowC {w : World} {g : Nat} {t : TypeId} {cs : Array Value} (h : Bk w g t cs) : RowC w (some ⟨g, 0, none⟩) cs.toList := fun j u hj => ⟨g, 0, rfl, h.lt, by rw [Nat.zero_add]; exact h.at j (by simpa using hj)⟩

theorem known9_tokens (w : World) (hg : G0 w) (g : Nat) (hb : Bk w g 9 #[.string ⟨#[97, 44, 32, 44, 66]⟩, .string ⟨#[99]⟩]) :
    Calls Tryd.prog 26 #[.slice (some ⟨g, 0, none⟩) 2 2] w fun e w' => ∃ A c, e = .returned (.tuple #[.slice A 3 c, .bool true]) ∧ RowC w' A [.string ⟨#[97]⟩, .string ⟨#[98]⟩, .string ⟨#[99]⟩] ∧ Sm No w w' := by
  refine (tokens_any w (some ⟨g, 0, none⟩) 2 kv1 hg (fun k hk => ?_) (by decide) (by decide) (by decide +kernel)).mono fun e w' h => ?_
  · match k, hk with
    | 0, _ => exact ⟨g, 0, rfl, hb.lt, hb.at 0 rfl⟩
    | 1, _ => exact ⟨g, 0, rfl, hb.lt, hb.at 1 rfl⟩
  · rcases h with ⟨r, v, hr, he, hO, hs⟩ | ⟨hr, _⟩
    · rw [known_tok] at hr
      injection hr with hr
      subst hr
      obtain ⟨A, c, hv, hR, _⟩ := hO.row
      subst hv
      exact ⟨A, c, he, hR, hs⟩
    · rw [known_tok] at hr; cases hr
theorem known9_params (w : World) :
    Calls Tryd.prog 31 #[.string ⟨#[59, 32, 120, 61, 49, 59, 121, 61, 34, 97, 92, 34, 98, 34]⟩] w fun e w' => ∃ A c, e = .returned (.tuple #[.slice A 2 c, .bool true]) ∧ RowC w' A (parCells [([120], [49]), ([121], [97, 34, 98])]) ∧ Sm No w w' := by
  refine (params_any kp1 (by decide) w).mono fun e w' h => ?_
  rcases h with ⟨r, v, hr, he, hO, _, hs⟩ | ⟨hr, _⟩
  · rw [known_par] at hr
    injection hr with hr
    subst hr
    obtain ⟨A, c, hv, hR⟩ := hO.row
    subst hv
    exact ⟨A, c, he, hR, hs⟩
  · rw [known_par] at hr; cases hr

set_option maxRecDepth 100000 in
set_option maxHeartbeats 8000000 in
theorem known9_any (w : World) (hg : G0 w) : Calls Tryd.prog 28 #[] w fun e w' => e = .returned (.bool true) ∧ Sm No w w' := by
  have hb1 := Bk.new w 9 #[.string ⟨#[97, 44, 32, 44, 66]⟩, .string ⟨#[99]⟩]
  have hs1 := (Sm.refl No w).alloc (.cells #[.string ⟨#[97, 44, 32, 44, 66]⟩, .string ⟨#[99]⟩] 9)
  have HT := Lib.hid (known9_tokens _ (hg.no hs1) _ hb1)
  have HS := Lib.hid hs1
  clear hb1 hs1 hg
  go_enter Tryd.func28, Tryd.ntmps28
  go_wp2_with fail
  refine HT.out.mono ?_
  rintro e w1 ⟨A1, c1, rfl, hR1, hs1⟩
  have H1 := Lib.hid (And.intro hR1 (HS.out.trans hs1 (fun _ _ h => h)))
  clear hR1 hs1
  go_wp2_with fail
  refine (known9_params _).mono ?_
  rintro e w2 ⟨A2, c2, rfl, hR2, hs2⟩
  have hs3 := (Sm.refl No w2).alloc (.cells #[.string ⟨#[97]⟩, .string ⟨#[98]⟩, .string ⟨#[99]⟩] 9)
  have hb3 := Bk.new w2 9 #[.string ⟨#[97]⟩, .string ⟨#[98]⟩, .string ⟨#[99]⟩]
  have HX := Lib.hid (texts9_any (w2.alloc (.cells #[.string ⟨#[97]⟩, .string ⟨#[98]⟩, .string ⟨#[99]⟩] 9)) A1 (some ⟨w2.heap.size, 0, none⟩) c1 3 [[97], [98], [99]] ((H1.out.1.no hs2).no hs3) hb3.rowC (by simp))
  have H2 := Lib.hid (And.intro (hR2.no hs3) ((H1.out.2.trans hs2 (fun _ _ h => h)).trans hs3 (fun _ _ h => h)))
  clear hs3 hb3 hR2 hs2
  go_wp2_with fail
  refine HX.out.mono ?_
  rintro e w4 ⟨rfl, hs4⟩
  have hb5 := Bk.new w4 61 #[.string ⟨#[120]⟩, .string ⟨#[49]⟩, .string ⟨#[121]⟩, .string ⟨#[97, 34, 98]⟩]
  have hs5 := (Sm.refl No w4).alloc (.cells #[.string ⟨#[120]⟩, .string ⟨#[49]⟩, .string ⟨#[121]⟩, .string ⟨#[97, 34, 98]⟩] 61)
  have HP := Lib.hid (params9_any (w4.alloc (.cells #[.string ⟨#[120]⟩, .string ⟨#[49]⟩, .string ⟨#[121]⟩, .string ⟨#[97, 34, 98]⟩] 61)) A2 (some ⟨w4.heap.size, 0, none⟩) c2 2 [([120], [49]), ([121], [97, 34, 98])] ((H2.out.1.no hs4).no hs5) hb5.rowC (by simp))
  have H4 := Lib.hid ((H2.out.2.trans hs4 (fun _ _ h => h)).trans hs5 (fun _ _ h => h))
  clear hb5 hs5 hs4
  go_wp2_with fail
  refine HP.out.mono ?_
  rintro e w6 ⟨rfl, hs6⟩
  go_wp2_with fail
  go_ret
  exact ⟨rfl, H4.out.trans hs6 (fun _ _ h => h)⟩

set_option maxHeartbeats 4000000 in
theorem lquoted_any (s : ByteArray) (hs : s.size ≤ 140737488351232) (w : World) (hg : G0 w) :
    Calls Tryd.prog 7 #[.string s] w fun e w' => e = .returned (.bool true) ∧ Sm No w w' := by
  by_cases hb : 3000 < s.size
  · clear hg
    go_enter Tryd.func7, Tryd.ntmps7
    go_wp2_with fail
    go_ret
    exact ⟨rfl, Sm.refl _ _⟩
  · obtain ⟨⟨a, n⟩, hQ⟩ : ∃ R, quoteL s.data.toList = R := ⟨_, rfl⟩
    have HQ := Lib.hid hQ
    have HG := Lib.hid hg
    clear hg
    by_cases hn : n = 0
    · subst hn
      clear hQ
      go_enter Tryd.func7, Tryd.ntmps7
      go_wp2_with fail
      refine (quoted_say HQ (by omega) _).mono ?_
      rintro e w1 ⟨rfl, hs1⟩
      go_wp2_with fail
      refine (rQuoted_say HQ (by omega) _).mono ?_
      rintro e w2 ⟨rfl, hs2⟩
      have H2 := Lib.hid (hs1.trans hs2 (fun _ _ h => h))
      clear hs1 hs2
      go_wp2_with fail
      refine (known9_any _ (HG.out.no H2.out)).mono ?_
      rintro e w3 ⟨rfl, hs3⟩
      go_wp2_with fail
      go_ret
      exact ⟨rfl, H2.out.trans hs3 (fun _ _ h => h)⟩
    · obtain ⟨c1, c2, c3, c4⟩ := quoteL_cut hQ hn
      rw [← size_toList'] at c1
      obtain ⟨s1, hs1⟩ : ∃ x, s.extract 0 n = x := ⟨_, rfl⟩
      obtain ⟨s2, hs2⟩ : ∃ x, s.extract 0 (n - 1) = x := ⟨_, rfl⟩
      have hd1 : quoteL s1.data.toList = (a, n) := by rw [← hs1, Lib.extract_data, List.drop_zero]; exact c2
      obtain ⟨b, hd2⟩ : ∃ b, quoteL s2.data.toList = (b, 0) := ⟨_, by rw [← hs2, Lib.extract_data, List.drop_zero]; exact Prod.ext rfl c3⟩
      have hz1 : s1.size ≤ 1000000 := by rw [← hs1]; simp; omega
      have hz2 : s2.size ≤ 1000000 := by rw [← hs2]; simp; omega
      have HD1 := Lib.hid hd1
      have HD2 := Lib.hid hd2
      have hne : (((n : Nat) : Int) == 0) = false := by simpa using hn
      have k1 : (0 : Int) ≤ (n : Int) - 1 := by omega
      have k2 : (n : Int) - 1 ≤ (s.size : Int) := by omega
      have k3 : ((n : Int) - 1).toNat = n - 1 := by omega
      clear hQ c2 c3 hd1 hd2
      go_enter Tryd.func7, Tryd.ntmps7
      go_wp2_with fail
      refine (quoted_say HQ (by omega) _).mono ?_
      rintro e w1 ⟨rfl, hs1⟩
      go_wp2_with fail
      refine (rQuoted_say HQ (by omega) _).mono ?_
      rintro e w2 ⟨rfl, hs2⟩
      have H2 := Lib.hid (hs1.trans hs2 (fun _ _ h => h))
      clear hs1 hs2
      go_wp2_with fail
      refine (quoted_say HD1 hz1 _).mono ?_
      rintro e w3 ⟨rfl, hs3⟩
      have H3 := Lib.hid (H2.out.trans hs3 (fun _ _ h => h))
      clear hs3
      go_wp2_with fail
      refine (quoted_say HD2 hz2 _).mono ?_
      rintro e w4 ⟨rfl, hs4⟩
      have H4 := Lib.hid (H3.out.trans hs4 (fun _ _ h => h))
      clear hs4
      go_wp2_with fail
      refine (known9_any _ (HG.out.no H4.out)).mono ?_
      rintro e w5 ⟨rfl, hs5⟩
      go_wp2_with fail
      go_ret
      exact ⟨rfl, H4.out.trans hs5 (fun _ _ h => h)⟩

set_option maxHeartbeats 4000000 in
theorem lparams_any (s : ByteArray) (hs : s.size ≤ 140737488351232) (w : World) (hg : G0 w) :
    Calls Tryd.prog 8 #[.string s] w fun e w' => e = .returned (.bool true) ∧ Sm No w w' := by
  by_cases hb : 3000 < s.size
  · clear hg
    go_enter Tryd.func8, Tryd.ntmps8
    go_wp2_with fail
    go_ret
    exact ⟨rfl, Sm.refl _ _⟩
  · have HG := Lib.hid hg
    clear hg
    go_enter Tryd.func8, Tryd.ntmps8
    go_wp2_with fail
    refine (params_any s (by omega) _).mono ?_
    rintro e w1 (⟨r, v, hr, rfl, hO, hl, hs1⟩ | ⟨hr, rfl, hs1⟩)
    · obtain ⟨A1, c1, rfl, hR1⟩ := hO.row
      have H1 := Lib.hid (And.intro hr (And.intro hR1 hs1))
      clear hr hO hR1 hs1
      go_wp2_with fail
      refine (rParams_any s (by omega) _).mono ?_
      rintro e w2 (⟨r2, v2, hr2, rfl, hO2, _, hs2⟩ | ⟨hr2, _⟩)
      · rw [H1.out.1] at hr2
        injection hr2 with hr2
        subst hr2
        obtain ⟨A2, c2, rfl, hR2⟩ := hO2.row
        have HP := Lib.hid (params9_any w2 A1 A2 c1 c2 r (H1.out.2.1.no hs2) hR2 (by omega))
        have H2 := Lib.hid (H1.out.2.2.trans hs2 (fun _ _ h => h))
        clear hO2 hR2 hs2
        go_wp2_with fail
        refine HP.out.mono ?_
        rintro e w3 ⟨rfl, hs3⟩
        have H3 := Lib.hid (H2.out.trans hs3 (fun _ _ h => h))
        clear hs3
        go_wp2_with fail
        refine (known9_any _ (HG.out.no H3.out)).mono ?_
        rintro e w4 ⟨rfl, hs4⟩
        go_wp2_with fail
        go_ret
        exact ⟨rfl, H3.out.trans hs4 (fun _ _ h => h)⟩
      · rw [H1.out.1] at hr2; cases hr2
    · have H1 := Lib.hid (And.intro hr hs1)
      clear hr hs1
      go_wp2_with fail
      refine (rParams_any s (by omega) _).mono ?_
      rintro e w2 (⟨r2, v2, hr2, _⟩ | ⟨hr2, rfl, hs2⟩)
      · rw [H1.out.1] at hr2; cases hr2
      · have HP := Lib.hid (params9_any w2 none none 0 0 [] (RowC.nil _ _) (RowC.nil _ _) (by simp))
        have H2 := Lib.hid (H1.out.2.trans hs2 (fun _ _ h => h))
        clear hs2 hr2
        go_wp2_with fail
        refine HP.out.mono ?_
        rintro e w3 ⟨rfl, hs3⟩
        have H3 := Lib.hid (H2.out.trans hs3 (fun _ _ h => h))
        clear hs3
        go_wp2_with fail
        refine (known9_any _ (HG.out.no H3.out)).mono ?_
        rintro e w4 ⟨rfl, hs4⟩
        go_wp2_with fail
        go_ret
        exact ⟨rfl, H3.out.trans hs4 (fun _ _ h => h)⟩

theorem g0_of {w : World} (h : w.ShapedOpen Tryd.prog) : G0 w := Tryd.laysM146.s1_3 w h
end Go.Proofs.YtppciofbaohpdaaDoor
