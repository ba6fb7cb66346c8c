/- What a Gate does with a failure. -/
import Derived.Test.YtkgafpmblmobeaaGateC
namespace Go.Proofs.Ytkgafpmblmobeaa
open Go.RowKit Go.Proofs Go.Maps

def failD (c : Cfg) (s : GS) : Int := min c.cap (if s.fails = 0 then c.base else min c.cap (2 * s.delay))
def failS (c : Cfg) (now : Int) (s : GS) : GS := { s with fails := s.fails + 1, delay := failD c s, till := max 0 (min now 1099511627776) + failD c s }

/-- What stays within bounds while a Gate is used. -/
structure Fit (c : Cfg) (s : GS) : Prop where
  a0 : 0 ≤ s.all
  a1 : s.all ≤ 1000000
  f0 : 0 ≤ s.fails
  f1 : s.fails ≤ 1000000
  d0 : 0 ≤ s.delay
  d1 : s.delay ≤ 1073741824
  b0 : 0 ≤ c.base
  b1 : c.base ≤ 1073741824
  c0 : 0 ≤ c.cap
  c1 : c.cap ≤ 1073741824

theorem fail_shut {w : World} {g m : Nat} {c : Cfg} {s : GS} {now y z u : Int} {t : TypeId} (hb : Bk w g t (gateVals c m ⟨s.all, y, z, u, s.stopped⟩)) (hy : y = s.fails + 1) (hz : z = failD c s) (hu : u = max 0 (min now 1099511627776) + failD c s) :
    Bk w g t (gateVals c m (failS c now s)) := by
  subst hy hz hu; exact hb

theorem gate_end {w w' : World} {g m n : Nat} {c : Cfg} {f : Int → Int} {s s' : GS} (h : IsGate w g m n c f s) (hs : Sm (· = g) w w') (hb : Bk w' g 53 (gateVals c m s')) : IsGate w' g m n c f s' ∧ Sm (· = g) w w' :=
  ⟨⟨hb, h.map.sm hs (fun e => h.ne e.symm), h.ne⟩, hs⟩

set_option maxHeartbeats 1000000 in
theorem failed_any (c : Cfg) (s : GS) (w : World) (g m n : Nat) (f : Int → Int) (now : Int) (hG : IsGate w g m n c f s) (hf : Fit c s) :
    Calls Try.prog 11 #[.pointer (some ⟨g, 0, none⟩), .int .i64 now] w fun e w' => e = .returned (.tuple #[]) ∧ IsGate w' g m n c f (failS c now s) ∧ Sm (· = g) w w' := by
  obtain ⟨a0, a1, f0, f1, d0, d1, b0, b1, c0, c1⟩ := hf
  obtain ⟨k0, k1, k2, k3, k4, k5, k6, k7, k8, k9, k10, k11, k12, k13, k14, k15, k16, k17, k18, k19, k20, k21⟩ := gate_cells hG.blk
  have z3 := hG.blk.fz 19
  have z4 := hG.blk.fz 18
  have z5 := hG.blk.fz 20
  clear k0 k1 k2 k3 k4 k5 k6 k7 k8 k9 k10 k13 k14 k15 k16 k17 k21
  by_cases hz : s.fails = 0
  · have hz0 : (s.fails == 0) = true := by simp [hz]
    have hd : failD c s = min c.cap c.base := by simp [failD, hz]
    have HD := Lib.hid hd
    clear hz hd
    go_enter Try.func11, Try.ntmps11
    go_wp2
    go_region
    all_goals go_wp2
    all_goals go_end0
    all_goals refine ⟨rfl, gate_end hG (by repeat (first | exact Sm.refl _ _ | apply Sm.drew | refine Sm.set1 ?_ _ _)) (fail_shut (((((hG.blk.set 19 _).set 18 _).set 19 _).set 20 _).drew.eq (by rfl)) rfl ?_ ?_)⟩
    all_goals (rw [HD.out]; clear HD hG k11 k12 k18 k19 k20 z3 z4 z5; cases c; cases s; dsimp only at *; omega)
  · have hz0 : (s.fails == 0) = false := by simp [hz]
    have hd : failD c s = min c.cap (min c.cap (2 * s.delay)) := by simp [failD, hz]
    have HD := Lib.hid hd
    clear hz hd
    go_enter Try.func11, Try.ntmps11
    go_wp2
    go_region
    all_goals go_wp2
    all_goals go_region
    all_goals go_wp2
    all_goals go_end0
    all_goals refine ⟨rfl, gate_end hG (by repeat (first | exact Sm.refl _ _ | apply Sm.drew | refine Sm.set1 ?_ _ _)) (fail_shut (((((hG.blk.set 19 _).set 18 _).set 19 _).set 20 _).drew.drew.eq (by rfl)) rfl ?_ ?_)⟩
    all_goals (rw [HD.out]; clear HD hG k11 k12 k18 k19 k20 z3 z4 z5; cases c; cases s; dsimp only at *; omega)
end Go.Proofs.Ytkgafpmblmobeaa
