/- The law RouteHead: its walk. -/
import Derived.Test.YtnopbhboamembaaDoorRoutI
import Derived.Test.YtnopbhboamembaaDoorG0
namespace Go.Proofs.YtnopbhboamembaaDoor
open Go.RowKit Go.Proofs

def hx5 (p : Txt) : Lt := ⟨p, 5, [[71, 69, 84]]⟩
def hx6 (p : Txt) : Lt := ⟨p, 6, [[72, 69, 65, 68], [88]]⟩
/-- What the law asks of the two answers. -/
def HeadOk (get : Bool) (want : Int) (A B : Int × Txt × List Txt × Int) : Prop :=
  (want = 0 ∧ A.2.2.2 = 404 ∧ A.1 = 0 ∧ A.2.1 = [] ∧ B.2.2.2 = 404) ∨ (want ≠ 0 ∧ get = true ∧ B.2.2.2 = 404 ∧ A.2.2.2 = 404 ∧ A.1 = 0 ∧ A.2.1 = []) ∨ (want ≠ 0 ∧ get = false ∧ A.2.2.2 = 404 ∧ A.1 = 0 ∧ A.2.1 = []) ∨
    (want ≠ 0 ∧ A.2.2.2 = 200 ∧ A.1 = want ∧ ((get = false) ∨ (B.2.2.2 = 200 ∧ B.1 = 5 ∧ B.2.1 = A.2.1)))
theorem head_ok0 (path : Txt) : HeadOk false 0 (matchL [] HEAD path) (matchL [] GET path) := by
  rw [match_none (find_nil path), match_none (find_nil path)]
  exact Or.inl ⟨rfl, rfl, rfl, rfl, rfl⟩
theorem head_ok5 (p path : Txt) : HeadOk true 5 (matchL [hx5 p] HEAD path) (matchL [hx5 p] GET path) := by
  rcases find_one (L := [hx5 p]) (p := p) (by intro x hx; rw [List.mem_singleton] at hx; subst hx; rfl) path with h | ⟨k, rest, h, hs⟩
  · rw [match_none h, match_none h]
    exact Or.inr (Or.inl ⟨by decide, rfl, rfl, rfl, rfl, rfl⟩)
  · rw [match_some (m := HEAD) (i := 5) h (by rw [hs]; rfl), match_some (m := GET) (i := 5) h (by rw [hs]; rfl)]
    exact Or.inr (Or.inr (Or.inr ⟨by decide, rfl, rfl, Or.inr ⟨rfl, rfl, rfl⟩⟩))
theorem head_ok6 (p path : Txt) : HeadOk false 6 (matchL [hx6 p] HEAD path) (matchL [hx6 p] GET path) := by
  rcases find_one (L := [hx6 p]) (p := p) (by intro x hx; rw [List.mem_singleton] at hx; subst hx; rfl) path with h | ⟨k, rest, h, hs⟩
  · rw [match_none h, match_none h]
    exact Or.inr (Or.inr (Or.inl ⟨by decide, rfl, rfl, rfl, rfl⟩))
  · rw [match_some (m := HEAD) (i := 6) h (by rw [hs]; rfl)]
    exact Or.inr (Or.inr (Or.inr ⟨by decide, rfl, rfl, Or.inl rfl⟩))
theorem head_ok56 (p path : Txt) : HeadOk true 6 (matchL [hx5 p, hx6 p] HEAD path) (matchL [hx5 p, hx6 p] GET path) := by
  rcases find_one (L := [hx5 p, hx6 p]) (p := p) (by intro x hx; rcases List.mem_cons.1 hx with rfl | hx; rfl; rw [List.mem_singleton] at hx; subst hx; rfl) path with h | ⟨k, rest, h, hs⟩
  · rw [match_none h, match_none h]
    exact Or.inr (Or.inl ⟨by decide, rfl, rfl, rfl, rfl, rfl⟩)
  · rw [match_some (m := HEAD) (i := 6) h (by rw [hs]; rfl), match_some (m := GET) (i := 5) h (by rw [hs]; rfl)]
    exact Or.inr (Or.inr (Or.inr ⟨by decide, rfl, rfl, Or.inr ⟨rfl, rfl, rfl⟩⟩))

theorem fine5 (p : Txt) : Fine [hx5 p] := ⟨by simp, by intro x hx; rw [List.mem_singleton] at hx; subst hx; simp [hx5]⟩
theorem fine6 (p : Txt) : Fine [hx6 p] := ⟨by simp, by intro x hx; rw [List.mem_singleton] at hx; subst hx; simp [hx6]⟩
theorem fine56 (p : Txt) : Fine [hx5 p, hx6 p] := ⟨by simp, by intro x hx; rcases List.mem_cons.1 hx with rfl | hx; simp [hx5]; rw [List.mem_singleton] at hx; subst hx; simp [hx6]⟩
theorem rowC_two {w : World} {g : Nat} {t : TypeId} {a b : Value} (h : Bk w g t #[a, b]) : RowC w (some ⟨g, 0, none⟩) [a, b] := rowC_bk h

set_option maxRecDepth 100000 in
set_option maxHeartbeats 4000000 in
theorem head19_any {w : World} (hg : G0 w) (s : ByteArray) (get own : Bool) (path : ByteArray) (hs : s.size ≤ 140737488351232) (hp : path.size ≤ 140737488351232) :
    Calls Tryd.prog 6 #[.string s, .bool get, .bool own, .string path] w fun e w' => e = .returned (.bool true) ∧ Sm No w w' := by
  have HG := Lib.hid hg
  clear hg
  by_cases hb : s.size + path.size ≤ 4000
  · go_enter Tryd.func6, Tryd.ntmps6
    go_wp2_with fail
    refine (new_own w w (Sm.refl _ _)).mono ?_
    rintro e w1 ⟨r, rfl, hR, _, _⟩
    have H1 := Lib.hid hR
    clear hR
    cases get <;> cases own
    · have hok := head_ok0 (txt path)
      obtain ⟨⟨i, rest, al, st⟩, hA⟩ : ∃ A, matchL [] HEAD (txt path) = A := ⟨_, rfl⟩
      obtain ⟨⟨i2, rest2, al2, st2⟩, hB⟩ : ∃ B, matchL [] GET (txt path) = B := ⟨_, rfl⟩
      rw [hA, hB] at hok
      have HA := Lib.hid (match_own w _ r [] ⟨#[72, 69, 65, 68]⟩ path hA H1.out Fine.nil (by omega))
      have HB := Lib.hid (And.intro hB hok)
      clear hok hA hB
      go_wp2_with fail
      refine HA.out.mono ?_
      rintro e w4 ⟨A4, c4, rfl, _, hs4⟩
      have H4 := Lib.hid (H1.out.no hs4)
      clear hs4
      go_wp2_with fail
      refine (match_own w _ r [] ⟨#[71, 69, 84]⟩ path HB.out.1 H4.out Fine.nil (by omega)).mono ?_
      rintro e w5 ⟨A5, c5, rfl, _, hs5⟩
      have HK := Lib.hid (known19_any w5 (HG.out.no (H4.out.no hs5).sm))
      have HS := Lib.hid (H4.out.no hs5).sm
      clear hs5
      have hok := HB.out.2
      clear HB HA
      unfold HeadOk at hok
      dsimp only at hok
      rcases hok with ⟨h0, rfl, rfl, rfl, rfl⟩ | ⟨h0, h1, rfl, rfl, rfl, rfl⟩ | ⟨h0, h1, rfl, rfl, rfl⟩ | ⟨h0, rfl, rfl, h1⟩
      · clear h0
        unfold strB
        go_wp2_with fail
        refine HK.out.mono ?_
        rintro e w6 ⟨rfl, hs6⟩
        have H6 := Lib.hid (HS.out.trans hs6 (fun _ _ h => h))
        clear hs6
        go_wp2_with fail
        go_ret
        exact ⟨rfl, H6.out⟩
      · exact absurd rfl h0
      · exact absurd rfl h0
      · exact absurd rfl h0
    · have HAdd := Lib.hid (add_own w _ r [] s 6 (some ⟨w1.heap.size, 0, none⟩) 2 [[72, 69, 65, 68], [88]] (H1.out.no ((Sm.refl _ _).alloc _)) HG.out Fine.nil (by omega) (rowC_bk (Bk.new w1 9 #[.string ⟨#[72, 69, 65, 68]⟩, .string ⟨#[88]⟩])) (by intro h; cases h) (by decide) (by decide))
      go_wp2_with fail
      refine HAdd.out.mono ?_
      rintro e w3 ⟨rfl, hR⟩
      by_cases hc : addC [] ⟨txt s, 6, [[72, 69, 65, 68], [88]]⟩ = 0
      · rw [hc]
        unfold addS at hR
        rw [if_pos hc] at hR
        have H3 := Lib.hid (show Own19 w w3 r [hx6 (txt s)] from hR)
        clear hc hR HAdd
        have hok := head_ok6 (txt s) (txt path)
        obtain ⟨⟨i, rest, al, st⟩, hA⟩ : ∃ A, matchL [hx6 (txt s)] HEAD (txt path) = A := ⟨_, rfl⟩
        obtain ⟨⟨i2, rest2, al2, st2⟩, hB⟩ : ∃ B, matchL [hx6 (txt s)] GET (txt path) = B := ⟨_, rfl⟩
        rw [hA, hB] at hok
        have HA := Lib.hid (match_own w _ r [hx6 (txt s)] ⟨#[72, 69, 65, 68]⟩ path hA H3.out (fine6 _) (by omega))
        have HB := Lib.hid (And.intro hB hok)
        clear hok hA hB
        go_wp2_with fail
        refine HA.out.mono ?_
        rintro e w4 ⟨A4, c4, rfl, _, hs4⟩
        have H4 := Lib.hid (H3.out.no hs4)
        clear hs4
        go_wp2_with fail
        refine (match_own w _ r [hx6 (txt s)] ⟨#[71, 69, 84]⟩ path HB.out.1 H4.out (fine6 _) (by omega)).mono ?_
        rintro e w5 ⟨A5, c5, rfl, _, hs5⟩
        have HK := Lib.hid (known19_any w5 (HG.out.no (H4.out.no hs5).sm))
        have HS := Lib.hid (H4.out.no hs5).sm
        clear hs5
        have hok := HB.out.2
        clear HB HA
        unfold HeadOk at hok
        dsimp only at hok
        rcases hok with ⟨h0, rfl, rfl, rfl, rfl⟩ | ⟨h0, h1, rfl, rfl, rfl, rfl⟩ | ⟨h0, h1, rfl, rfl, rfl⟩ | ⟨h0, rfl, rfl, h1⟩
        · exact absurd h0 (by decide)
        · cases h1
        · clear h0 h1
          unfold strB
          go_wp2_with fail
          refine HK.out.mono ?_
          rintro e w6 ⟨rfl, hs6⟩
          have H6 := Lib.hid (HS.out.trans hs6 (fun _ _ h => h))
          clear hs6
          go_wp2_with fail
          go_ret
          exact ⟨rfl, H6.out⟩
        · clear h0 h1
          unfold strB
          go_wp2_with fail
          refine HK.out.mono ?_
          rintro e w6 ⟨rfl, hs6⟩
          have H6 := Lib.hid (HS.out.trans hs6 (fun _ _ h => h))
          clear hs6
          go_wp2_with fail
          go_ret
          exact ⟨rfl, H6.out⟩

      · have e1 : (addC [] ⟨txt s, 6, [[72, 69, 65, 68], [88]]⟩ != 0) = true := by simpa using hc
        have HK := Lib.hid (known19_any w3 (HG.out.no hR.sm))
        have HS := Lib.hid hR.sm
        obtain ⟨cc, hcc⟩ : ∃ cc, addC [] ⟨txt s, 6, [[72, 69, 65, 68], [88]]⟩ = cc := ⟨_, rfl⟩
        rw [hcc] at hc e1 ⊢
        clear hR HAdd hcc
        go_wp2_with fail
        refine HK.out.mono ?_
        rintro e w6 ⟨rfl, hs6⟩
        have H6 := Lib.hid (HS.out.trans hs6 (fun _ _ h => h))
        clear hs6
        go_wp2_with fail
        go_ret
        exact ⟨rfl, H6.out⟩
    · have HAdd := Lib.hid (add_own w _ r [] s 5 (some ⟨w1.heap.size, 0, none⟩) 1 [[71, 69, 84]] (H1.out.no ((Sm.refl _ _).alloc _)) HG.out Fine.nil (by omega) (rowC_bk (Bk.new w1 9 #[.string ⟨#[71, 69, 84]⟩])) (by intro h; cases h) (by decide) (by decide))
      go_wp2_with fail
      refine HAdd.out.mono ?_
      rintro e w2 ⟨rfl, hR⟩
      by_cases hc : addC [] ⟨txt s, 5, [[71, 69, 84]]⟩ = 0
      · rw [hc]
        unfold addS at hR
        rw [if_pos hc] at hR
        have H2 := Lib.hid (show Own19 w w2 r [hx5 (txt s)] from hR)
        clear hc hR HAdd
        have hok := head_ok5 (txt s) (txt path)
        obtain ⟨⟨i, rest, al, st⟩, hA⟩ : ∃ A, matchL [hx5 (txt s)] HEAD (txt path) = A := ⟨_, rfl⟩
        obtain ⟨⟨i2, rest2, al2, st2⟩, hB⟩ : ∃ B, matchL [hx5 (txt s)] GET (txt path) = B := ⟨_, rfl⟩
        rw [hA, hB] at hok
        have HA := Lib.hid (match_own w _ r [hx5 (txt s)] ⟨#[72, 69, 65, 68]⟩ path hA H2.out (fine5 _) (by omega))
        have HB := Lib.hid (And.intro hB hok)
        clear hok hA hB
        go_wp2_with fail
        refine HA.out.mono ?_
        rintro e w4 ⟨A4, c4, rfl, _, hs4⟩
        have H4 := Lib.hid (H2.out.no hs4)
        clear hs4
        go_wp2_with fail
        refine (match_own w _ r [hx5 (txt s)] ⟨#[71, 69, 84]⟩ path HB.out.1 H4.out (fine5 _) (by omega)).mono ?_
        rintro e w5 ⟨A5, c5, rfl, _, hs5⟩
        have HK := Lib.hid (known19_any w5 (HG.out.no (H4.out.no hs5).sm))
        have HS := Lib.hid (H4.out.no hs5).sm
        clear hs5
        have hok := HB.out.2
        clear HB HA
        unfold HeadOk at hok
        dsimp only at hok
        rcases hok with ⟨h0, rfl, rfl, rfl, rfl⟩ | ⟨h0, h1, rfl, rfl, rfl, rfl⟩ | ⟨h0, h1, rfl, rfl, rfl⟩ | ⟨h0, rfl, rfl, h1⟩
        · exact absurd h0 (by decide)
        · clear h0 h1
          unfold strB
          go_wp2_with fail
          refine HK.out.mono ?_
          rintro e w6 ⟨rfl, hs6⟩
          have H6 := Lib.hid (HS.out.trans hs6 (fun _ _ h => h))
          clear hs6
          go_wp2_with fail
          go_ret
          exact ⟨rfl, H6.out⟩
        · cases h1
        · rcases h1 with h1 | ⟨rfl, rfl, rfl⟩
          · cases h1
          clear h0
          unfold strB
          go_wp2_with fail
          refine HK.out.mono ?_
          rintro e w6 ⟨rfl, hs6⟩
          have H6 := Lib.hid (HS.out.trans hs6 (fun _ _ h => h))
          clear hs6
          go_wp2_with fail
          go_ret
          exact ⟨rfl, H6.out⟩

      · have e1 : (addC [] ⟨txt s, 5, [[71, 69, 84]]⟩ != 0) = true := by simpa using hc
        have HK := Lib.hid (known19_any w2 (HG.out.no hR.sm))
        have HS := Lib.hid hR.sm
        obtain ⟨cc, hcc⟩ : ∃ cc, addC [] ⟨txt s, 5, [[71, 69, 84]]⟩ = cc := ⟨_, rfl⟩
        rw [hcc] at hc e1 ⊢
        clear hR HAdd hcc
        go_wp2_with fail
        refine HK.out.mono ?_
        rintro e w6 ⟨rfl, hs6⟩
        have H6 := Lib.hid (HS.out.trans hs6 (fun _ _ h => h))
        clear hs6
        go_wp2_with fail
        go_ret
        exact ⟨rfl, H6.out⟩
    · have HAdd := Lib.hid (add_own w _ r [] s 5 (some ⟨w1.heap.size, 0, none⟩) 1 [[71, 69, 84]] (H1.out.no ((Sm.refl _ _).alloc _)) HG.out Fine.nil (by omega) (rowC_bk (Bk.new w1 9 #[.string ⟨#[71, 69, 84]⟩])) (by intro h; cases h) (by decide) (by decide))
      go_wp2_with fail
      refine HAdd.out.mono ?_
      rintro e w2 ⟨rfl, hR⟩
      by_cases hc : addC [] ⟨txt s, 5, [[71, 69, 84]]⟩ = 0
      · rw [hc]
        unfold addS at hR
        rw [if_pos hc] at hR
        have H2 := Lib.hid (show Own19 w w2 r [hx5 (txt s)] from hR)
        clear hc hR HAdd
        have HAdd := Lib.hid (add_own w _ r [hx5 (txt s)] s 6 (some ⟨w2.heap.size, 0, none⟩) 2 [[72, 69, 65, 68], [88]] (H2.out.no ((Sm.refl _ _).alloc _)) HG.out (fine5 _) (by omega) (rowC_bk (Bk.new w2 9 #[.string ⟨#[72, 69, 65, 68]⟩, .string ⟨#[88]⟩])) (by intro h; cases h) (by decide) (by decide))
        go_wp2_with fail
        refine HAdd.out.mono ?_
        rintro e w3 ⟨rfl, hR⟩
        by_cases hc : addC [hx5 (txt s)] ⟨txt s, 6, [[72, 69, 65, 68], [88]]⟩ = 0
        · rw [hc]
          unfold addS at hR
          rw [if_pos hc] at hR
          have H3 := Lib.hid (show Own19 w w3 r [hx5 (txt s), hx6 (txt s)] from hR)
          clear hc hR HAdd
          have hok := head_ok56 (txt s) (txt path)
          obtain ⟨⟨i, rest, al, st⟩, hA⟩ : ∃ A, matchL [hx5 (txt s), hx6 (txt s)] HEAD (txt path) = A := ⟨_, rfl⟩
          obtain ⟨⟨i2, rest2, al2, st2⟩, hB⟩ : ∃ B, matchL [hx5 (txt s), hx6 (txt s)] GET (txt path) = B := ⟨_, rfl⟩
          rw [hA, hB] at hok
          have HA := Lib.hid (match_own w _ r [hx5 (txt s), hx6 (txt s)] ⟨#[72, 69, 65, 68]⟩ path hA H3.out (fine56 _) (by omega))
          have HB := Lib.hid (And.intro hB hok)
          clear hok hA hB
          go_wp2_with fail
          refine HA.out.mono ?_
          rintro e w4 ⟨A4, c4, rfl, _, hs4⟩
          have H4 := Lib.hid (H3.out.no hs4)
          clear hs4
          go_wp2_with fail
          refine (match_own w _ r [hx5 (txt s), hx6 (txt s)] ⟨#[71, 69, 84]⟩ path HB.out.1 H4.out (fine56 _) (by omega)).mono ?_
          rintro e w5 ⟨A5, c5, rfl, _, hs5⟩
          have HK := Lib.hid (known19_any w5 (HG.out.no (H4.out.no hs5).sm))
          have HS := Lib.hid (H4.out.no hs5).sm
          clear hs5
          have hok := HB.out.2
          clear HB HA
          unfold HeadOk at hok
          dsimp only at hok
          rcases hok with ⟨h0, rfl, rfl, rfl, rfl⟩ | ⟨h0, h1, rfl, rfl, rfl, rfl⟩ | ⟨h0, h1, rfl, rfl, rfl⟩ | ⟨h0, rfl, rfl, h1⟩
          · exact absurd h0 (by decide)
          · clear h0 h1
            unfold strB
            go_wp2_with fail
            refine HK.out.mono ?_
            rintro e w6 ⟨rfl, hs6⟩
            have H6 := Lib.hid (HS.out.trans hs6 (fun _ _ h => h))
            clear hs6
            go_wp2_with fail
            go_ret
            exact ⟨rfl, H6.out⟩
          · cases h1
          · rcases h1 with h1 | ⟨rfl, rfl, rfl⟩
            · cases h1
            clear h0
            unfold strB
            go_wp2_with fail
            refine HK.out.mono ?_
            rintro e w6 ⟨rfl, hs6⟩
            have H6 := Lib.hid (HS.out.trans hs6 (fun _ _ h => h))
            clear hs6
            go_wp2_with fail
            go_ret
            exact ⟨rfl, H6.out⟩

        · have e1 : (addC [hx5 (txt s)] ⟨txt s, 6, [[72, 69, 65, 68], [88]]⟩ != 0) = true := by simpa using hc
          have HK := Lib.hid (known19_any w3 (HG.out.no hR.sm))
          have HS := Lib.hid hR.sm
          obtain ⟨cc, hcc⟩ : ∃ cc, addC [hx5 (txt s)] ⟨txt s, 6, [[72, 69, 65, 68], [88]]⟩ = cc := ⟨_, rfl⟩
          rw [hcc] at hc e1 ⊢
          clear hR HAdd hcc
          go_wp2_with fail
          refine HK.out.mono ?_
          rintro e w6 ⟨rfl, hs6⟩
          have H6 := Lib.hid (HS.out.trans hs6 (fun _ _ h => h))
          clear hs6
          go_wp2_with fail
          go_ret
          exact ⟨rfl, H6.out⟩

      · have e1 : (addC [] ⟨txt s, 5, [[71, 69, 84]]⟩ != 0) = true := by simpa using hc
        have HK := Lib.hid (known19_any w2 (HG.out.no hR.sm))
        have HS := Lib.hid hR.sm
        obtain ⟨cc, hcc⟩ : ∃ cc, addC [] ⟨txt s, 5, [[71, 69, 84]]⟩ = cc := ⟨_, rfl⟩
        rw [hcc] at hc e1 ⊢
        clear hR HAdd hcc
        go_wp2_with fail
        refine HK.out.mono ?_
        rintro e w6 ⟨rfl, hs6⟩
        have H6 := Lib.hid (HS.out.trans hs6 (fun _ _ h => h))
        clear hs6
        go_wp2_with fail
        go_ret
        exact ⟨rfl, H6.out⟩
  · go_enter Tryd.func6, Tryd.ntmps6
    go_wp2_with fail
    go_ret
    exact ⟨rfl, Sm.refl _ _⟩

theorem deep19_law {w : World} (hg : G0 w) (n t : Int) (_ : (Lit.int .i64 n).wf = true) (_ : (Lit.int .i64 t).wf = true) : Calls Tryd.prog 5 #[.int .i64 n, .int .i64 t] w fun e w' => e = .returned (.bool true) ∧ Sm No w w' := deep19_any hg n t
end Go.Proofs.YtnopbhboamembaaDoor
