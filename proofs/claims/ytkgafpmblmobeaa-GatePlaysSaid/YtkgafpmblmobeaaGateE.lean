/- What a Gate answers: Full, May, Count. -/
import Derived.Test.YtkgafpmblmobeaaGateD
namespace Go.Proofs.Ytkgafpmblmobeaa
open Go.RowKit Go.Proofs Go.Maps

theorem InMap.look {w : World} {m n : Nat} {f : Int → Int} (h : InMap w m n f) {p : Int} (hp : (Lit.int .i64 p).wf = true) :
    (Instr.lookup 38 (.map (some m)) (.int .i64 p) false).run Try.prog w = .ok (.int .i64 (f p)) w ∧ (Lit.int .i64 (f p)).wf = true := by
  obtain ⟨D, h1, h2⟩ := h
  obtain ⟨c, hrun, hat, hwc⟩ := h1.lookup_int law3 Try.underlying38 Try.underlying3 (zero3 w) (keyOf_int_mk Try.underlying3 hp)
  have e := (h2 p hp).symm.trans hat
  simp at e
  subst e
  exact ⟨hrun, hwc⟩

def fullB (c : Cfg) (s : GS) : Bool := decide (c.maxConns ≤ s.all)
def mayB (c : Cfg) (now : Int) (s : GS) : Bool := !s.stopped && decide (s.till ≤ now) && (!fullB c s || c.refuse || c.evict)

set_option maxHeartbeats 1000000 in
theorem full_any (c : Cfg) (s : GS) (w : World) (g m : Nat) (hb : Bk w g 53 (gateVals c m s)) :
    Calls Try.prog 15 #[.pointer (some ⟨g, 0, none⟩)] w fun e w' => e = .returned (.bool (fullB c s)) ∧ ∃ n, w' = w.drewN n := by
  have k0 : w.cell? ⟨g, 0, none⟩ = some (.int .i64 c.maxConns) := hb.at 0 rfl
  have k17 : w.cell? ⟨g, 17, none⟩ = some (.int .i64 s.all) := hb.at 17 rfl
  by_cases h : c.maxConns ≤ s.all
  · have hf : fullB c s = true := by simp [fullB, h]
    have HF := Lib.hid hf
    clear hf
    go_enter Try.func15, Try.ntmps15
    go_wp2_with fail
    go_quiet (fail)
    go_wp2
    go_ret
    exact ⟨ret_b HF.out.symm, nq, rfl⟩
  · have hf : fullB c s = false := by simp [fullB, h]
    have HF := Lib.hid hf
    clear hf
    go_enter Try.func15, Try.ntmps15
    go_wp2_with fail
    go_quiet (fail)
    go_wp2
    go_ret
    exact ⟨rfl, nq, rfl⟩

theorem full_say {c : Cfg} {s : GS} {r : Bool} (hr : Hid (fullB c s = r)) (w : World) (g m : Nat) (hb : Bk w g 53 (gateVals c m s)) :
    Calls Try.prog 15 #[.pointer (some ⟨g, 0, none⟩)] w fun e w' => e = .returned (.bool r) ∧ ∃ n, w' = w.drewN n := by
  rw [← hr.out]; exact full_any c s w g m hb

set_option maxHeartbeats 1000000 in
theorem may_any (c : Cfg) (s : GS) (w : World) (g m : Nat) (now : Int) (hb : Bk w g 53 (gateVals c m s)) :
    Calls Try.prog 13 #[.pointer (some ⟨g, 0, none⟩), .int .i64 now] w fun e w' => e = .returned (.bool (mayB c now s)) ∧ ∃ n, w' = w.drewN n := by
  obtain ⟨st, hst⟩ : ∃ st, s.stopped = st := ⟨_, rfl⟩
  obtain ⟨fu, hfu⟩ : ∃ fu, fullB c s = fu := ⟨_, rfl⟩
  obtain ⟨re, hre⟩ : ∃ re, c.refuse = re := ⟨_, rfl⟩
  obtain ⟨ev, hev⟩ : ∃ ev, c.evict = ev := ⟨_, rfl⟩
  have k13 : w.cell? ⟨g, 13, none⟩ = some (.bool re) := by rw [← hre]; exact hb.at 13 rfl
  have k14 : w.cell? ⟨g, 14, none⟩ = some (.bool ev) := by rw [← hev]; exact hb.at 14 rfl
  have k20 : w.cell? ⟨g, 20, none⟩ = some (.int .i64 s.till) := hb.at 20 rfl
  have k21 : w.cell? ⟨g, 21, none⟩ = some (.bool st) := by rw [← hst]; exact hb.at 21 rfl
  have hm : mayB c now s = (!st && decide (s.till ≤ now) && (!fu || re || ev)) := by simp [mayB, hst, hfu, hre, hev]
  rw [hm]
  have HU := Lib.hid hfu
  clear hst hfu hre hev hm
  cases st
  case true =>
    go_enter Try.func13, Try.ntmps13
    go_wp2_with fail
    go_ret
    exact ⟨ret_b (by simp), 0, rfl⟩
  case false =>
    by_cases h : s.till ≤ now
    · have ht : decide (s.till ≤ now) = true := by simp [h]
      have HT := Lib.hid ht
      clear ht
      go_enter Try.func13, Try.ntmps13
      go_wp2_with fail
      refine (full_say HU _ g m hb).mono ?_
      rintro e w' ⟨rfl, n, rfl⟩
      cases fu
      · go_wp2_with fail
        go_ret
        exact ⟨ret_b (by rw [HT.out]; simp), n, rfl⟩
      · cases re
        · go_wp2_with fail
          go_ret
          exact ⟨ret_b (by rw [HT.out]; simp), n, rfl⟩
        · go_wp2_with fail
          go_ret
          exact ⟨ret_b (by rw [HT.out]; simp), n, rfl⟩
    · have ht : decide (s.till ≤ now) = false := by simp [h]
      have HT := Lib.hid ht
      clear ht
      go_enter Try.func13, Try.ntmps13
      go_wp2_with fail
      go_ret
      exact ⟨ret_b (by rw [HT.out]; simp), 0, rfl⟩

set_option maxHeartbeats 1000000 in
theorem count_any (c : Cfg) (s : GS) (w : World) (g m n : Nat) (f : Int → Int) (p : Int) (hG : IsGate w g m n c f s) (hp : (Lit.int .i64 p).wf = true) :
    Calls Try.prog 12 #[.pointer (some ⟨g, 0, none⟩), .int .i64 p] w fun e w' => e = .returned (.tuple #[.int .i64 s.all, .int .i64 (f p), .int .i64 s.till]) ∧ ∃ n, w' = w.drewN n := by
  have k16 : w.cell? ⟨g, 16, none⟩ = some (.map (some m)) := hG.blk.at 16 rfl
  have k17 : w.cell? ⟨g, 17, none⟩ = some (.int .i64 s.all) := hG.blk.at 17 rfl
  have k20 : w.cell? ⟨g, 20, none⟩ = some (.int .i64 s.till) := hG.blk.at 20 rfl
  have hl := (hG.map.look hp).1
  have hl1 := fun nq => ((hG.map.drewN nq).look hp).1
  go_enter Try.func12, Try.ntmps12
  go_wp2_with fail
  go_quiet (fail)
  go_wp2
  go_ret3
  exact ⟨rfl, nq, rfl⟩

set_option maxHeartbeats 1000000 in
theorem stop_any (c : Cfg) (s : GS) (w : World) (g m n : Nat) (f : Int → Int) (hG : IsGate w g m n c f s) :
    Calls Try.prog 21 #[.pointer (some ⟨g, 0, none⟩)] w fun e w' => e = .returned (.tuple #[]) ∧ IsGate w' g m n c f { s with stopped := true } ∧ Sm (· = g) w w' := by
  have k21 : w.cell? ⟨g, 21, none⟩ = some (.bool s.stopped) := hG.blk.at 21 rfl
  have z21 := hG.blk.fz 21
  go_enter Try.func21, Try.ntmps21
  go_wp2
  go_end0
  exact ⟨rfl, gate_end hG (by repeat (first | exact Sm.refl _ _ | apply Sm.drew | refine Sm.set1 ?_ _ _)) ((hG.blk.set 21 _).eq (by rfl))⟩
end Go.Proofs.Ytkgafpmblmobeaa
