/- What is known of four failures: the laws' own example. -/
import Derived.Test.YtkgafpmblmobeaaGateF
namespace Go.Proofs.Ytkgafpmblmobeaa
open Go.RowKit Go.Proofs Go.Maps

theorem may_say {c : Cfg} {s : GS} {now : Int} {r : Bool} (hr : Hid (mayB c now s = r)) (w : World) (g m : Nat) (hb : Bk w g 53 (gateVals c m s)) :
    Calls Try.prog 13 #[.pointer (some ⟨g, 0, none⟩), .int .i64 now] w fun e w' => e = .returned (.bool r) ∧ ∃ n, w' = w.drewN n := by
  rw [← hr.out]; exact may_any c s w g m now hb

theorem IsGate.sm {S : Nat → Prop} {w w' : World} {g m n : Nat} {c : Cfg} {f : Int → Int} {s : GS} (h : IsGate w g m n c f s) (hs : Sm S w w') (hg : ¬ S g) (hm : ¬ S m) : IsGate w' g m n c f s :=
  ⟨h.blk.sm hs hg, h.map.sm hs hm, h.ne⟩
theorem IsGate.drewN {w : World} {g m n : Nat} {c : Cfg} {f : Int → Int} {s : GS} (h : IsGate w g m n c f s) (k : Nat) : IsGate (w.drewN k) g m n c f s := ⟨h.blk.drewN k, h.map.drewN k, h.ne⟩
theorem IsGate.alloc {w : World} {g m n : Nat} {c : Cfg} {f : Int → Int} {s : GS} (h : IsGate w g m n c f s) (o : Obj) : IsGate (w.alloc o) g m n c f s := ⟨h.blk.alloc o, h.map.alloc o, h.ne⟩
theorem IsGate.eq {w : World} {g m n : Nat} {c : Cfg} {f : Int → Int} {s s' : GS} (h : IsGate w g m n c f s) (e : s = s') : IsGate w g m n c f s' := e ▸ h

def plainC : Cfg := ⟨3, 2, 1, 0, 1, 1, 1, 1, 1, 0, 0, 3, 10, false, false, none, 0, 0⟩
def knownS : Nat → GS
  | 0 => ⟨0, 0, 0, 0, false⟩
  | 1 => ⟨0, 1, 3, 3, false⟩
  | 2 => ⟨0, 2, 6, 11, false⟩
  | 3 => ⟨0, 3, 10, 30, false⟩
  | _ => ⟨0, 4, 10, 50, false⟩
theorem ks0 : failS plainC 0 (knownS 0) = ⟨0, 1, 3, 3, false⟩ := rfl
theorem ks1 : failS plainC 5 (knownS 1) = ⟨0, 2, 6, 11, false⟩ := rfl
theorem ks2 : failS plainC 20 (knownS 2) = ⟨0, 3, 10, 30, false⟩ := rfl
theorem ks3 : failS plainC 40 (knownS 3) = ⟨0, 4, 10, 50, false⟩ := rfl
theorem five (k : Nat) (h : k ≤ 4) : k = 0 ∨ k = 1 ∨ k = 2 ∨ k = 3 ∨ k = 4 := by omega
theorem knownFit (k : Nat) (h : k ≤ 4) : Fit plainC (knownS k) := by
  rcases five k h with rfl | rfl | rfl | rfl | rfl <;> exact ⟨by decide, by decide, by decide, by decide, by decide, by decide, by decide, by decide, by decide, by decide⟩

set_option maxHeartbeats 1000000 in
theorem known_any (w : World) : Calls Try.prog 8 #[] w fun e w' => e = .returned (.bool true) ∧ Sm No w w' := by
  go_enter Try.func8, Try.ntmps8
  go_wp2_with fail
  refine (plain_any _).mono ?_
  rintro e w1 ⟨rfl, hs1⟩
  go_wp2_with fail
  refine (new_ok plainC _ (by decide)).mono ?_
  rintro e w2 ⟨g, m, hg, hm, rfl, hG, hs2⟩
  go_wp2_with fail
  have hs0 : Sm No w w2 := hs1.trans hs2 (fun _ _ h => h)
  have hG1 := hG.alloc (.cells #[.int .i64 3, .int .i64 11, .int .i64 30, .int .i64 50] 3)
  have hW := Bk.new w2 3 #[.int .i64 3, .int .i64 11, .int .i64 30, .int .i64 50]
  have hs3 := hs0.alloc (.cells #[.int .i64 3, .int .i64 11, .int .i64 30, .int .i64 50] 3)
  have hgl := hG.blk.lt
  obtain ⟨bw, hbw⟩ : ∃ bw, bw = w2.heap.size := ⟨_, rfl⟩
  rw [← hbw] at hW hgl ⊢
  have hne : g ≠ bw := by omega
  have hg0 : w.heap.size ≤ g := Nat.le_trans hs1.size hg
  have hm0 : w.heap.size ≤ m := Nat.le_trans hs1.size hm
  clear hG hs0 hs1 hs2 hbw hgl hg hm
  generalize w2.alloc (.cells #[.int .i64 3, .int .i64 11, .int .i64 30, .int .i64 50] 3) = w3 at *
  go_loopw [4] (fun i wr => ∃ k : Nat, k ≤ 4 ∧ i = .int .i64 k ∧ IsGate wr g m 0 plainC (fun _ => 0) (knownS k) ∧ Bk wr bw 3 #[.int .i64 3, .int .i64 11, .int .i64 30, .int .i64 50] ∧ Sm No w wr) (fun i _ => 4 - (intOf i).toNat)
  case atStart => exact ⟨0, by omega, rfl, hG1, hW, hs3⟩
  case round =>
    obtain ⟨k, hk, rfl, hG2, hW2, hs4⟩ := hrel
    clear hG1 hW hs3
    rcases five k hk with rfl | rfl | rfl | rfl | rfl
    case' inr.inr.inr.inr =>
      have H1 : Hid (mayB plainC 49 (knownS 4) = false) := Lib.hid rfl
      have H2 : Hid (mayB plainC 50 (knownS 4) = true) := Lib.hid rfl
      have H3 : Hid (fitsB plainC (fun _ => 0) 1 (knownS 4) = true) := Lib.hid rfl
      go_wp2_with fail
      refine (may_say H1 _ g m hG2.blk).mono ?_
      rintro e w' ⟨rfl, n1, rfl⟩
      go_wp2_with fail
      refine (may_say H2 _ g m (hG2.drewN _).blk).mono ?_
      rintro e w' ⟨rfl, n2, rfl⟩
      go_wp2_with fail
      refine (took_keep plainC (knownS 4) _ g m 0 (fun _ => 0) 1 (hG2.drewN _) (by decide) (by omega) (by decide) (by decide) (by decide) (by decide) H3.out).mono ?_
      rintro e w' ⟨rfl, _, hs5⟩
      go_wp2_with fail
      go_ret
      exact ⟨rfl, (hs4.drewN _).trans hs5 (fun b hb h => by rcases h with h | h <;> subst h <;> omega)⟩
    all_goals
      go_wp2_with fail
      refine (failed_any plainC (knownS _) _ g m 0 (fun _ => 0) _ (hG2.alloc _) (knownFit _ (by omega))).mono ?_
      rintro e w' ⟨rfl, hG3, hs5⟩
      simp only [ks0, ks1, ks2, ks3] at hG3
      have hW3 := (hW2.alloc _).sm hs5 (fun e => hne e.symm)
      go_wp2_with fail
      refine (count_any plainC _ _ g m 0 (fun _ => 0) 0 hG3 (by decide)).mono ?_
      rintro e w' ⟨rfl, n1, rfl⟩
      have hW4 := hW3.drewN n1
      have c0 : (w'.drewN n1).cell? ⟨bw, 0, none⟩ = some (.int .i64 3) := hW4.at 0 rfl
      have c1 : (w'.drewN n1).cell? ⟨bw, 1, none⟩ = some (.int .i64 11) := hW4.at 1 rfl
      have c2 : (w'.drewN n1).cell? ⟨bw, 2, none⟩ = some (.int .i64 30) := hW4.at 2 rfl
      have c3 : (w'.drewN n1).cell? ⟨bw, 3, none⟩ = some (.int .i64 50) := hW4.at 3 rfl
      have hs6 := ((hs4.alloc _).trans hs5 (fun b hb h => by subst h; omega)).drewN n1
      have hG4 := hG3.drewN n1
      go_wp2_with fail
      refine ⟨?_, by simp [intOf]⟩
      first
        | exact ⟨1, by decide, rfl, hG4, hW4, hs6⟩
        | exact ⟨2, by decide, rfl, hG4, hW4, hs6⟩
        | exact ⟨3, by decide, rfl, hG4, hW4, hs6⟩
        | exact ⟨4, by decide, rfl, hG4, hW4, hs6⟩
end Go.Proofs.Ytkgafpmblmobeaa
