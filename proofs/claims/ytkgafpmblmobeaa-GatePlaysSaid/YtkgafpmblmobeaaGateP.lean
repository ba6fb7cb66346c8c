/- The reference's Gate: whether a config is one; a new Gate. -/
import Derived.Test.YtkgafpmblmobeaaGateF
namespace Go.Proofs.Ytkgafpmblmobeaa
open Go.RowKit Go.Proofs Go.Maps

def inW (n lo hi : Int) : Bool := decide (lo ≤ n) && decide (n ≤ hi)
theorem inW_say {n lo hi : Int} {r : Bool} (h : Hid (inW n lo hi = r)) (w : World) :
    Calls Try.prog 27 #[.int .i64 n, .int .i64 lo, .int .i64 hi] w fun e w' => e = .returned (.bool r) ∧ w = w' := by
  rw [← h.out]; exact refwithin_any n lo hi w

theorem ok_flat (c : Cfg) : c.ok = (inW c.maxConns 1 64 && inW c.maxPerPeer 1 64 && inW c.pipeline 1 64 && inW c.buffers 0 4096 && inW c.idle 1 1073741824 && inW c.head 1 1073741824 && inW c.body 1 1073741824 && inW c.write 1 1073741824 && inW c.linger 1 1073741824 && inW c.pace 0 1073741824 && inW c.paceBytes 0 1048576 && inW c.base 0 1048576 && inW c.cap 0 1073741824) := by
  rw [Bool.eq_iff_iff]
  simp only [Cfg.ok, allW, inW, List.all_cons, List.all_nil, Bool.and_eq_true, Bool.and_true, decide_eq_true_eq]
  constructor <;> intro h <;> omega

set_option maxRecDepth 100000 in
set_option maxHeartbeats 4000000 in
theorem refConfig_any (c : Cfg) (w : World) : Calls Try.prog 25 #[.agg c.vals] w fun e w' => e = .returned (.bool c.ok) ∧ Sm No w w' := by
  rw [ok_flat]
  unfold Cfg.vals
  obtain ⟨r0, h0⟩ : ∃ r, inW c.maxConns 1 64 = r := ⟨_, rfl⟩
  obtain ⟨r1, h1⟩ : ∃ r, inW c.maxPerPeer 1 64 = r := ⟨_, rfl⟩
  obtain ⟨r2, h2⟩ : ∃ r, inW c.pipeline 1 64 = r := ⟨_, rfl⟩
  obtain ⟨r3, h3⟩ : ∃ r, inW c.buffers 0 4096 = r := ⟨_, rfl⟩
  obtain ⟨r4, h4⟩ : ∃ r, inW c.idle 1 1073741824 = r := ⟨_, rfl⟩
  obtain ⟨r5, h5⟩ : ∃ r, inW c.head 1 1073741824 = r := ⟨_, rfl⟩
  obtain ⟨r6, h6⟩ : ∃ r, inW c.body 1 1073741824 = r := ⟨_, rfl⟩
  obtain ⟨r7, h7⟩ : ∃ r, inW c.write 1 1073741824 = r := ⟨_, rfl⟩
  obtain ⟨r8, h8⟩ : ∃ r, inW c.linger 1 1073741824 = r := ⟨_, rfl⟩
  obtain ⟨r9, h9⟩ : ∃ r, inW c.pace 0 1073741824 = r := ⟨_, rfl⟩
  obtain ⟨r10, h10⟩ : ∃ r, inW c.paceBytes 0 1048576 = r := ⟨_, rfl⟩
  obtain ⟨r11, h11⟩ : ∃ r, inW c.base 0 1048576 = r := ⟨_, rfl⟩
  obtain ⟨r12, h12⟩ : ∃ r, inW c.cap 0 1073741824 = r := ⟨_, rfl⟩
  rw [h0, h1, h2, h3, h4, h5, h6, h7, h8, h9, h10, h11, h12]
  have H0 := Lib.hid h0
  have H1 := Lib.hid h1
  have H2 := Lib.hid h2
  have H3 := Lib.hid h3
  have H4 := Lib.hid h4
  have H5 := Lib.hid h5
  have H6 := Lib.hid h6
  have H7 := Lib.hid h7
  have H8 := Lib.hid h8
  have H9 := Lib.hid h9
  have H10 := Lib.hid h10
  have H11 := Lib.hid h11
  have H12 := Lib.hid h12
  clear h0 h1 h2 h3 h4 h5 h6 h7 h8 h9 h10 h11 h12
  go_enter Try.func25, Try.ntmps25
  go_wp2_with fail
  refine (inW_say H0 _).mono ?_
  rintro e w' ⟨rfl, rfl⟩
  cases r0
  · go_wp2_with fail
    refine (inW_say H4 _).mono ?_
    rintro e w' ⟨rfl, rfl⟩
    cases r4
    · go_wp2_with fail
      go_ret
      exact ⟨ret_b (by simp), (Sm.refl No w).alloc _⟩
    · go_wp2_with fail
      refine (inW_say H5 _).mono ?_
      rintro e w' ⟨rfl, rfl⟩
      cases r5
      · go_wp2_with fail
        go_ret
        exact ⟨ret_b (by simp), (Sm.refl No w).alloc _⟩
      · go_wp2_with fail
        refine (inW_say H6 _).mono ?_
        rintro e w' ⟨rfl, rfl⟩
        cases r6
        · go_wp2_with fail
          go_ret
          exact ⟨ret_b (by simp), (Sm.refl No w).alloc _⟩
        · go_wp2_with fail
          refine (inW_say H7 _).mono ?_
          rintro e w' ⟨rfl, rfl⟩
          cases r7
          · go_wp2_with fail
            go_ret
            exact ⟨ret_b (by simp), (Sm.refl No w).alloc _⟩
          · go_wp2_with fail
            refine (inW_say H8 _).mono ?_
            rintro e w' ⟨rfl, rfl⟩
            cases r8
            · go_wp2_with fail
              go_ret
              exact ⟨ret_b (by simp), (Sm.refl No w).alloc _⟩
            · go_wp2_with fail
              go_ret
              exact ⟨ret_b (by simp), (Sm.refl No w).alloc _⟩
  · go_wp2_with fail
    refine (inW_say H1 _).mono ?_
    rintro e w' ⟨rfl, rfl⟩
    cases r1
    · go_wp2_with fail
      refine (inW_say H4 _).mono ?_
      rintro e w' ⟨rfl, rfl⟩
      cases r4
      · go_wp2_with fail
        go_ret
        exact ⟨ret_b (by simp), (Sm.refl No w).alloc _⟩
      · go_wp2_with fail
        refine (inW_say H5 _).mono ?_
        rintro e w' ⟨rfl, rfl⟩
        cases r5
        · go_wp2_with fail
          go_ret
          exact ⟨ret_b (by simp), (Sm.refl No w).alloc _⟩
        · go_wp2_with fail
          refine (inW_say H6 _).mono ?_
          rintro e w' ⟨rfl, rfl⟩
          cases r6
          · go_wp2_with fail
            go_ret
            exact ⟨ret_b (by simp), (Sm.refl No w).alloc _⟩
          · go_wp2_with fail
            refine (inW_say H7 _).mono ?_
            rintro e w' ⟨rfl, rfl⟩
            cases r7
            · go_wp2_with fail
              go_ret
              exact ⟨ret_b (by simp), (Sm.refl No w).alloc _⟩
            · go_wp2_with fail
              refine (inW_say H8 _).mono ?_
              rintro e w' ⟨rfl, rfl⟩
              cases r8
              · go_wp2_with fail
                go_ret
                exact ⟨ret_b (by simp), (Sm.refl No w).alloc _⟩
              · go_wp2_with fail
                go_ret
                exact ⟨ret_b (by simp), (Sm.refl No w).alloc _⟩
    · go_wp2_with fail
      refine (inW_say H2 _).mono ?_
      rintro e w' ⟨rfl, rfl⟩
      cases r2
      · go_wp2_with fail
        refine (inW_say H4 _).mono ?_
        rintro e w' ⟨rfl, rfl⟩
        cases r4
        · go_wp2_with fail
          go_ret
          exact ⟨ret_b (by simp), (Sm.refl No w).alloc _⟩
        · go_wp2_with fail
          refine (inW_say H5 _).mono ?_
          rintro e w' ⟨rfl, rfl⟩
          cases r5
          · go_wp2_with fail
            go_ret
            exact ⟨ret_b (by simp), (Sm.refl No w).alloc _⟩
          · go_wp2_with fail
            refine (inW_say H6 _).mono ?_
            rintro e w' ⟨rfl, rfl⟩
            cases r6
            · go_wp2_with fail
              go_ret
              exact ⟨ret_b (by simp), (Sm.refl No w).alloc _⟩
            · go_wp2_with fail
              refine (inW_say H7 _).mono ?_
              rintro e w' ⟨rfl, rfl⟩
              cases r7
              · go_wp2_with fail
                go_ret
                exact ⟨ret_b (by simp), (Sm.refl No w).alloc _⟩
              · go_wp2_with fail
                refine (inW_say H8 _).mono ?_
                rintro e w' ⟨rfl, rfl⟩
                cases r8
                · go_wp2_with fail
                  go_ret
                  exact ⟨ret_b (by simp), (Sm.refl No w).alloc _⟩
                · go_wp2_with fail
                  go_ret
                  exact ⟨ret_b (by simp), (Sm.refl No w).alloc _⟩
      · go_wp2_with fail
        refine (inW_say H3 _).mono ?_
        rintro e w' ⟨rfl, rfl⟩
        cases r3
        · go_wp2_with fail
          refine (inW_say H4 _).mono ?_
          rintro e w' ⟨rfl, rfl⟩
          cases r4
          · go_wp2_with fail
            go_ret
            exact ⟨ret_b (by simp), (Sm.refl No w).alloc _⟩
          · go_wp2_with fail
            refine (inW_say H5 _).mono ?_
            rintro e w' ⟨rfl, rfl⟩
            cases r5
            · go_wp2_with fail
              go_ret
              exact ⟨ret_b (by simp), (Sm.refl No w).alloc _⟩
            · go_wp2_with fail
              refine (inW_say H6 _).mono ?_
              rintro e w' ⟨rfl, rfl⟩
              cases r6
              · go_wp2_with fail
                go_ret
                exact ⟨ret_b (by simp), (Sm.refl No w).alloc _⟩
              · go_wp2_with fail
                refine (inW_say H7 _).mono ?_
                rintro e w' ⟨rfl, rfl⟩
                cases r7
                · go_wp2_with fail
                  go_ret
                  exact ⟨ret_b (by simp), (Sm.refl No w).alloc _⟩
                · go_wp2_with fail
                  refine (inW_say H8 _).mono ?_
                  rintro e w' ⟨rfl, rfl⟩
                  cases r8
                  · go_wp2_with fail
                    go_ret
                    exact ⟨ret_b (by simp), (Sm.refl No w).alloc _⟩
                  · go_wp2_with fail
                    go_ret
                    exact ⟨ret_b (by simp), (Sm.refl No w).alloc _⟩
        · go_wp2_with fail
          refine (inW_say H4 _).mono ?_
          rintro e w' ⟨rfl, rfl⟩
          cases r4
          · go_wp2_with fail
            go_ret
            exact ⟨ret_b (by simp), (Sm.refl No w).alloc _⟩
          · go_wp2_with fail
            refine (inW_say H5 _).mono ?_
            rintro e w' ⟨rfl, rfl⟩
            cases r5
            · go_wp2_with fail
              go_ret
              exact ⟨ret_b (by simp), (Sm.refl No w).alloc _⟩
            · go_wp2_with fail
              refine (inW_say H6 _).mono ?_
              rintro e w' ⟨rfl, rfl⟩
              cases r6
              · go_wp2_with fail
                go_ret
                exact ⟨ret_b (by simp), (Sm.refl No w).alloc _⟩
              · go_wp2_with fail
                refine (inW_say H7 _).mono ?_
                rintro e w' ⟨rfl, rfl⟩
                cases r7
                · go_wp2_with fail
                  go_ret
                  exact ⟨ret_b (by simp), (Sm.refl No w).alloc _⟩
                · go_wp2_with fail
                  refine (inW_say H8 _).mono ?_
                  rintro e w' ⟨rfl, rfl⟩
                  cases r8
                  · go_wp2_with fail
                    go_ret
                    exact ⟨ret_b (by simp), (Sm.refl No w).alloc _⟩
                  · go_wp2_with fail
                    refine (inW_say H9 _).mono ?_
                    rintro e w' ⟨rfl, rfl⟩
                    cases r9
                    · go_wp2_with fail
                      go_ret
                      exact ⟨ret_b (by simp), (Sm.refl No w).alloc _⟩
                    · go_wp2_with fail
                      refine (inW_say H10 _).mono ?_
                      rintro e w' ⟨rfl, rfl⟩
                      cases r10
                      · go_wp2_with fail
                        go_ret
                        exact ⟨ret_b (by simp), (Sm.refl No w).alloc _⟩
                      · go_wp2_with fail
                        refine (inW_say H11 _).mono ?_
                        rintro e w' ⟨rfl, rfl⟩
                        cases r11
                        · go_wp2_with fail
                          go_ret
                          exact ⟨ret_b (by simp), (Sm.refl No w).alloc _⟩
                        · go_wp2_with fail
                          refine (inW_say H12 _).mono ?_
                          rintro e w' ⟨rfl, rfl⟩
                          cases r12
                          · go_wp2_with fail
                            go_ret
                            exact ⟨ret_b (by simp), (Sm.refl No w).alloc _⟩
                          · go_wp2_with fail
                            go_ret
                            exact ⟨ret_b (by simp), (Sm.refl No w).alloc _⟩

theorem refConfig_say {c : Cfg} {w : World} {r : Bool} (h : Hid (c.ok = r)) : Calls Try.prog 25 #[.agg c.vals] w fun e w' => e = .returned (.bool r) ∧ Sm No w w' := by
  rw [← h.out]; exact refConfig_any c w

/-- The reference's Gate: its numbers. -/
structure RS where
  all : Int
  fails : Int
  till : Int
  stopped : Bool

def refVals (c : Cfg) (m : Nat) (s : RS) : Array Value := #[.int .i64 c.maxConns, .int .i64 c.maxPerPeer, .int .i64 c.pipeline, .int .i64 c.buffers, .int .i64 c.idle, .int .i64 c.head, .int .i64 c.body, .int .i64 c.write, .int .i64 c.linger,
  .int .i64 c.pace, .int .i64 c.paceBytes, .int .i64 c.base, .int .i64 c.cap, .bool c.refuse, .bool c.evict, .slice c.ta c.tl c.tc, .map (some m), .int .i64 s.all, .int .i64 s.fails, .int .i64 s.till, .bool s.stopped]

structure IsRef (w : World) (g m n : Nat) (c : Cfg) (f : Int → Int) (s : RS) : Prop where
  blk : Bk w g 48 (refVals c m s)
  map : InMap w m n f
  ne : g ≠ m

set_option maxHeartbeats 1000000 in
theorem refnew_ok (c : Cfg) (w : World) (hc : c.ok = true) : Calls Try.prog 17 #[.agg c.vals] w fun e w' =>
    ∃ g m, w.heap.size ≤ g ∧ w.heap.size ≤ m ∧ e = .returned (.tuple #[.pointer (some ⟨g, 0, none⟩), .int .i64 0]) ∧ IsRef w' g m 0 c (fun _ => 0) ⟨0, 0, 0, false⟩ ∧ Sm No w w' := by
  have Hc := Lib.hid hc
  clear hc
  have hmm := @run_makeMap Try.prog
  unfold Cfg.vals
  go_enter Try.func17, Try.ntmps17
  go_wp2_with (refine wpList_load_bk rfl 25 _ rfl Try.underlying25 16 infoCfg _ rfl _ (Bk.new _ _ _) rfl ?_)
  refine (refConfig_say Hc).mono ?_
  rintro e w1 ⟨rfl, hs⟩
  have hb1 := (Bk.new w 25 c.vals).sm hs (fun h => h.elim)
  unfold Cfg.vals at hb1
  have hsz := hs.size
  simp only [World.size_alloc] at hsz
  go_wp2_with (refine wpList_load_bk rfl 25 _ rfl Try.underlying25 16 infoCfg _ rfl _ hb1 rfl ?_)
  go_ret2
  refine ⟨w1.heap.size + 1, w1.heap.size, by omega, by omega, rfl, ⟨?_, ?_, by omega⟩, ?_⟩
  · exact Bk.newAt (w1.alloc (.map #[] 0)) _ _ (by simp)
  · exact (InMap.made w1 rfl).alloc _
  · exact ((((Sm.refl No w).alloc _).trans hs (fun _ _ h => h)).alloc _).alloc _

theorem refnew_no (c : Cfg) (w : World) (hc : c.ok = false) : Calls Try.prog 17 #[.agg c.vals] w fun e w' =>
    e = .returned (.tuple #[.pointer none, .int .i64 1]) ∧ Sm No w w' := by
  have Hc := Lib.hid hc
  clear hc
  unfold Cfg.vals
  go_enter Try.func17, Try.ntmps17
  go_wp2_with (refine wpList_load_bk rfl 25 _ rfl Try.underlying25 16 infoCfg _ rfl _ (Bk.new _ _ _) rfl ?_)
  refine (refConfig_say Hc).mono ?_
  rintro e w1 ⟨rfl, hs⟩
  go_wp2_with fail
  go_ret2
  exact ⟨rfl, ((Sm.refl No w).alloc _).trans hs (fun _ _ h => h)⟩
end Go.Proofs.Ytkgafpmblmobeaa
