/- A config and a script that came in, opened to their numbers. -/
import Derived.Test.YtkgafpmblmobeaaGateS
import Derived.Deep.Slices
import Derived.Deep.Fields
import Derived.ChangeSame
import Derived.Lib.SmallJoins
namespace Go.Proofs.Ytkgafpmblmobeaa
open Go.RowKit Go.Proofs Go.Maps Go.ChangeShapes Go.WideShapes Go.Deep

theorem cellsInt : Try.prog.cellsOf 3 = 1 := by kernel_rfl
theorem cellsBool : Try.prog.cellsOf 4 = 1 := by kernel_rfl
theorem cellsEntries : Try.prog.cellsOf 23 = 1 := by kernel_rfl
theorem cellsCfg : Try.prog.cellsOf 25 = 16 := by kernel_rfl
theorem cellsAct : Try.prog.cellsOf 46 = 3 := by kernel_rfl

theorem list16 (l : List Value) (h : l.length = 16) : ∃ c0 c1 c2 c3 c4 c5 c6 c7 c8 c9 c10 c11 c12 c13 c14 c15, l = [c0, c1, c2, c3, c4, c5, c6, c7, c8, c9, c10, c11, c12, c13, c14, c15] := by
  match l, h with
  | [c0, c1, c2, c3, c4, c5, c6, c7, c8, c9, c10, c11, c12, c13, c14, c15], _ => exact ⟨c0, c1, c2, c3, c4, c5, c6, c7, c8, c9, c10, c11, c12, c13, c14, c15, rfl⟩

section
variable {H : Type} {enc : TypeId × Value → H} {W : World}

theorem open_cfg {base : Nat} {spare : Nat → Bool} {held : Bool} {fuel : Nat} {l : List Value} {x : DataW H × List MemPlace} (h : DataW.trod enc Try.prog W base spare held fuel 25 l = some x) : ∃ c : Cfg, l = c.vals.toList := by
  obtain ⟨ys, n, _, _, hlen, hyl, hf⟩ := DataW.trod_struct Try.underlying25 h
  rw [cellsCfg] at hlen
  obtain ⟨c0, c1, c2, c3, c4, c5, c6, c7, c8, c9, c10, c11, c12, c13, c14, c15, rfl⟩ := list16 l hlen
  have f0 := hf 0 _ rfl
  have g0 : DataW.trod enc Try.prog W base spare held n 3 [c0] = ys[0]? := by simpa [cellsInt] using f0
  rw [List.getElem?_eq_getElem (by rw [hyl]; decide)] at g0
  obtain ⟨n0, hn0, _, _⟩ := DataW.trod_int Try.underlying3 g0
  simp only [List.cons.injEq, and_true] at hn0
  subst hn0
  have f1 := hf 1 _ rfl
  have g1 : DataW.trod enc Try.prog W base spare held n 3 [c1] = ys[1]? := by simpa [cellsInt] using f1
  rw [List.getElem?_eq_getElem (by rw [hyl]; decide)] at g1
  obtain ⟨n1, hn1, _, _⟩ := DataW.trod_int Try.underlying3 g1
  simp only [List.cons.injEq, and_true] at hn1
  subst hn1
  have f2 := hf 2 _ rfl
  have g2 : DataW.trod enc Try.prog W base spare held n 3 [c2] = ys[2]? := by simpa [cellsInt] using f2
  rw [List.getElem?_eq_getElem (by rw [hyl]; decide)] at g2
  obtain ⟨n2, hn2, _, _⟩ := DataW.trod_int Try.underlying3 g2
  simp only [List.cons.injEq, and_true] at hn2
  subst hn2
  have f3 := hf 3 _ rfl
  have g3 : DataW.trod enc Try.prog W base spare held n 3 [c3] = ys[3]? := by simpa [cellsInt] using f3
  rw [List.getElem?_eq_getElem (by rw [hyl]; decide)] at g3
  obtain ⟨n3, hn3, _, _⟩ := DataW.trod_int Try.underlying3 g3
  simp only [List.cons.injEq, and_true] at hn3
  subst hn3
  have f4 := hf 4 _ rfl
  have g4 : DataW.trod enc Try.prog W base spare held n 3 [c4] = ys[4]? := by simpa [cellsInt] using f4
  rw [List.getElem?_eq_getElem (by rw [hyl]; decide)] at g4
  obtain ⟨n4, hn4, _, _⟩ := DataW.trod_int Try.underlying3 g4
  simp only [List.cons.injEq, and_true] at hn4
  subst hn4
  have f5 := hf 5 _ rfl
  have g5 : DataW.trod enc Try.prog W base spare held n 3 [c5] = ys[5]? := by simpa [cellsInt] using f5
  rw [List.getElem?_eq_getElem (by rw [hyl]; decide)] at g5
  obtain ⟨n5, hn5, _, _⟩ := DataW.trod_int Try.underlying3 g5
  simp only [List.cons.injEq, and_true] at hn5
  subst hn5
  have f6 := hf 6 _ rfl
  have g6 : DataW.trod enc Try.prog W base spare held n 3 [c6] = ys[6]? := by simpa [cellsInt] using f6
  rw [List.getElem?_eq_getElem (by rw [hyl]; decide)] at g6
  obtain ⟨n6, hn6, _, _⟩ := DataW.trod_int Try.underlying3 g6
  simp only [List.cons.injEq, and_true] at hn6
  subst hn6
  have f7 := hf 7 _ rfl
  have g7 : DataW.trod enc Try.prog W base spare held n 3 [c7] = ys[7]? := by simpa [cellsInt] using f7
  rw [List.getElem?_eq_getElem (by rw [hyl]; decide)] at g7
  obtain ⟨n7, hn7, _, _⟩ := DataW.trod_int Try.underlying3 g7
  simp only [List.cons.injEq, and_true] at hn7
  subst hn7
  have f8 := hf 8 _ rfl
  have g8 : DataW.trod enc Try.prog W base spare held n 3 [c8] = ys[8]? := by simpa [cellsInt] using f8
  rw [List.getElem?_eq_getElem (by rw [hyl]; decide)] at g8
  obtain ⟨n8, hn8, _, _⟩ := DataW.trod_int Try.underlying3 g8
  simp only [List.cons.injEq, and_true] at hn8
  subst hn8
  have f9 := hf 9 _ rfl
  have g9 : DataW.trod enc Try.prog W base spare held n 3 [c9] = ys[9]? := by simpa [cellsInt] using f9
  rw [List.getElem?_eq_getElem (by rw [hyl]; decide)] at g9
  obtain ⟨n9, hn9, _, _⟩ := DataW.trod_int Try.underlying3 g9
  simp only [List.cons.injEq, and_true] at hn9
  subst hn9
  have f10 := hf 10 _ rfl
  have g10 : DataW.trod enc Try.prog W base spare held n 3 [c10] = ys[10]? := by simpa [cellsInt] using f10
  rw [List.getElem?_eq_getElem (by rw [hyl]; decide)] at g10
  obtain ⟨n10, hn10, _, _⟩ := DataW.trod_int Try.underlying3 g10
  simp only [List.cons.injEq, and_true] at hn10
  subst hn10
  have f11 := hf 11 _ rfl
  have g11 : DataW.trod enc Try.prog W base spare held n 3 [c11] = ys[11]? := by simpa [cellsInt] using f11
  rw [List.getElem?_eq_getElem (by rw [hyl]; decide)] at g11
  obtain ⟨n11, hn11, _, _⟩ := DataW.trod_int Try.underlying3 g11
  simp only [List.cons.injEq, and_true] at hn11
  subst hn11
  have f12 := hf 12 _ rfl
  have g12 : DataW.trod enc Try.prog W base spare held n 3 [c12] = ys[12]? := by simpa [cellsInt] using f12
  rw [List.getElem?_eq_getElem (by rw [hyl]; decide)] at g12
  obtain ⟨n12, hn12, _, _⟩ := DataW.trod_int Try.underlying3 g12
  simp only [List.cons.injEq, and_true] at hn12
  subst hn12
  have f13 := hf 13 _ rfl
  have g13 : DataW.trod enc Try.prog W base spare held n 4 [c13] = ys[13]? := by simpa [cellsBool] using f13
  rw [List.getElem?_eq_getElem (by rw [hyl]; decide)] at g13
  obtain ⟨n13, hn13, _⟩ := DataW.trod_bool Try.underlying4 g13
  simp only [List.cons.injEq, and_true] at hn13
  subst hn13
  have f14 := hf 14 _ rfl
  have g14 : DataW.trod enc Try.prog W base spare held n 4 [c14] = ys[14]? := by simpa [cellsBool] using f14
  rw [List.getElem?_eq_getElem (by rw [hyl]; decide)] at g14
  obtain ⟨n14, hn14, _⟩ := DataW.trod_bool Try.underlying4 g14
  simp only [List.cons.injEq, and_true] at hn14
  subst hn14
  have f15 := hf 15 _ rfl
  have g15 : DataW.trod enc Try.prog W base spare held n 23 [c15] = ys[15]? := by simpa [cellsEntries] using f15
  rw [List.getElem?_eq_getElem (by rw [hyl]; decide)] at g15
  obtain ⟨ta, tl, tc, hn15⟩ := Go.Joins.slice_form Try.underlying23 g15
  simp only [List.cons.injEq, and_true] at hn15
  subst hn15
  exact ⟨⟨n0, n1, n2, n3, n4, n5, n6, n7, n8, n9, n10, n11, n12, n13, n14, ta, tl, tc⟩, rfl⟩

theorem list_of {α : Type} (p : Nat → α → Prop) : ∀ n : Nat, (∀ i, i < n → ∃ x, p i x) → ∃ l : List α, l.length = n ∧ ∀ i, i < n → ∃ x, l[i]? = some x ∧ p i x := by
  intro n
  induction n with
  | zero => intro _; exact ⟨[], rfl, fun i h => absurd h (by omega)⟩
  | succ n ih =>
    intro h
    obtain ⟨l, hl, hx⟩ := ih (fun i hi => h i (by omega))
    obtain ⟨x, hp⟩ := h n (by omega)
    refine ⟨l ++ [x], by simp [hl], fun i hi => ?_⟩
    by_cases e : i < n
    · obtain ⟨y, hy, hq⟩ := hx i e
      exact ⟨y, by rw [List.getElem?_append_left (by omega)]; exact hy, hq⟩
    · obtain rfl : i = n := by omega
      exact ⟨x, by rw [List.getElem?_append_right (by omega), hl]; simp, hp⟩

theorem list3 (l : List Value) (h : l.length = 3) : ∃ c0 c1 c2, l = [c0, c1, c2] := by
  match l, h with
  | [c0, c1, c2], _ => exact ⟨c0, c1, c2, rfl⟩

theorem open_script {fuel : Nat} {A : Option Addr} {len cap : Nat} {x : DataW H × List MemPlace} (h : DataW.trod enc Try.prog W 0 (fun _ => true) true fuel 41 [.slice A len cap] = some x) :
    ∃ l : List (Int × Int × Int), l.length = len ∧ l.length ≤ 9223372036854775807 ∧ Script W A l := by
  rcases open_slice Try.underlying41 h with ⟨hcs, _⟩ | ⟨a, len', cap', m, n, D, Pl, hcs, _, hl, hm, hmm, _, hel⟩
  · simp only [List.cons.injEq, Value.slice.injEq, and_true] at hcs
    obtain ⟨rfl, rfl, rfl⟩ := hcs
    exact ⟨[], rfl, by decide, fun k hk => absurd hk (by simp)⟩
  · simp only [List.cons.injEq, Value.slice.injEq, and_true] at hcs
    obtain ⟨rfl, rfl, rfl⟩ := hcs
    rw [if_pos rfl] at hmm
    subst hmm
    have key : ∀ i, i < len → ∃ x : Int × Int × Int, W.cell? ((a.add (i * 3)).add 0) = some (.int .i64 x.1) ∧ W.cell? ((a.add (i * 3)).add 1) = some (.int .i64 x.2.1) ∧ W.cell? ((a.add (i * 3)).add 2) = some (.int .i64 x.2.2) ∧
        (Lit.int .i64 x.1).wf = true ∧ (Lit.int .i64 x.2.1).wf = true ∧ (Lit.int .i64 x.2.2).wf = true := by
      intro i hi
      obtain ⟨cs', hc, ht⟩ := hel i (by omega)
      rw [cellsAct] at hc
      obtain ⟨ys, n', _, _, hlen, hyl, hf⟩ := DataW.trod_struct Try.underlying46 ht
      rw [cellsAct] at hlen
      obtain ⟨_, _, hat⟩ := World.cells?_some hc
      obtain ⟨c0, c1, c2, rfl⟩ := list3 cs' hlen
      have f0 := hf 0 _ rfl
      have f1 := hf 1 _ rfl
      have f2 := hf 2 _ rfl
      have g0 : DataW.trod enc Try.prog W 0 (fun _ => true) true n' 3 [c0] = ys[0]? := by simpa [cellsInt] using f0
      have g1 : DataW.trod enc Try.prog W 0 (fun _ => true) true n' 3 [c1] = ys[1]? := by simpa [cellsInt] using f1
      have g2 : DataW.trod enc Try.prog W 0 (fun _ => true) true n' 3 [c2] = ys[2]? := by simpa [cellsInt] using f2
      rw [List.getElem?_eq_getElem (by rw [hyl]; decide)] at g0 g1 g2
      obtain ⟨x0, h0, _, w0⟩ := DataW.trod_int Try.underlying3 g0
      obtain ⟨x1, h1, _, w1⟩ := DataW.trod_int Try.underlying3 g1
      obtain ⟨x2, h2, _, w2⟩ := DataW.trod_int Try.underlying3 g2
      simp only [List.cons.injEq, and_true] at h0 h1 h2
      subst h0 h1 h2
      exact ⟨(x0, x1, x2), by rw [hat 0 (by decide)]; rfl, by rw [hat 1 (by decide)]; rfl, by rw [hat 2 (by decide)]; rfl, w0, w1, w2⟩
    obtain ⟨l, hlen, hx⟩ := list_of _ len key
    refine ⟨l, hlen, by rw [hlen]; unfold maxLen at hm; omega, fun k hk => ?_⟩
    obtain ⟨x0, _, hc0, _⟩ := hx 0 (by omega)
    have ha0 : (a.add (0 * 3)).add 0 = a := rfl
    rw [ha0] at hc0
    have hsp : a.spot = none := by
      have := World.cell?_spot hc0
      simpa using this
    obtain ⟨bb, off, sp⟩ := a
    dsimp only at hsp
    subst hsp
    obtain ⟨x, hlx, q0, q1, q2, w0, w1, w2⟩ := hx k (by omega)
    rw [add_plain, add_plain] at q0 q1 q2
    exact ⟨bb, off, rfl, World.block_lt_of_cell? W _ hc0, x, hlx, q0, q1, q2, w0, w1, w2⟩
end

set_option maxRecDepth 100000 in
set_option maxHeartbeats 1000000 in
theorem plays_no (c : Cfg) (hc : c.ok = false) (A : Option Addr) (n cap : Nat) (w : World) :
    Calls Try.prog 5 #[.agg c.vals, .slice A n cap] w fun e w' => e = .returned (.bool true) ∧ Sm No w w' := by
  have Hc := Lib.hid hc
  clear hc
  unfold Cfg.vals
  go_enter Try.func5, Try.ntmps5
  go_wp2_with (refine wpList_load_bk rfl 25 _ rfl Try.underlying25 16 infoCfg _ rfl _ (Bk.new _ _ _) rfl ?_)
  refine (new_no c _ Hc.out).mono ?_
  rintro e w1 ⟨rfl, hs1⟩
  have hb1 := (Bk.new w 25 c.vals).sm hs1 (fun h => h.elim)
  unfold Cfg.vals at hb1
  go_wp2_with (refine wpList_load_bk rfl 25 _ rfl Try.underlying25 16 infoCfg _ rfl _ hb1 rfl ?_)
  refine (refnew_no c _ Hc.out).mono ?_
  rintro e w2 ⟨rfl, hs2⟩
  go_wp2_with fail
  refine (known_any _).mono ?_
  rintro e w3 ⟨rfl, hs3⟩
  go_wp2_with fail
  go_ret
  exact ⟨rfl, ((((Sm.refl No w).alloc _).trans hs1 (fun _ _ h => h)).trans hs2 (fun _ _ h => h)).trans hs3 (fun _ _ h => h)⟩

theorem plays_any (c : Cfg) (A : Option Addr) (l : List (Int × Int × Int)) (cap : Nat) (w : World) (hlen : l.length ≤ 9223372036854775807) (hA : Script w A l) :
    Calls Try.prog 5 #[.agg c.vals, .slice A l.length cap] w fun e w' => e = .returned (.bool true) ∧ Sm No w w' := by
  cases hc : c.ok
  · exact plays_no c hc A l.length cap w
  · exact plays_in c hc A l cap w hlen hA
end Go.Proofs.Ytkgafpmblmobeaa
