/- Whether a config is one, by both packages: one answer. -/
import Derived.Test.YtkgafpmblmobeaaGateA
import Derived.WalkLawsBesides
namespace Go.Proofs.Ytkgafpmblmobeaa
open Go.RowKit Go.Proofs

structure Cfg where
  maxConns : Int
  maxPerPeer : Int
  pipeline : Int
  buffers : Int
  idle : Int
  head : Int
  body : Int
  write : Int
  linger : Int
  pace : Int
  paceBytes : Int
  base : Int
  cap : Int
  refuse : Bool
  evict : Bool
  ta : Option Addr
  tl : Nat
  tc : Nat

def Cfg.vals (c : Cfg) : Array Value := #[.int .i64 c.maxConns, .int .i64 c.maxPerPeer, .int .i64 c.pipeline, .int .i64 c.buffers, .int .i64 c.idle, .int .i64 c.head, .int .i64 c.body, .int .i64 c.write, .int .i64 c.linger,
  .int .i64 c.pace, .int .i64 c.paceBytes, .int .i64 c.base, .int .i64 c.cap, .bool c.refuse, .bool c.evict, .slice c.ta c.tl c.tc]

def Cfg.ok (c : Cfg) : Bool :=
  allW 1 64 [c.maxConns, c.maxPerPeer, c.pipeline] && allW 0 4096 [c.buffers] && allW 1 1073741824 [c.idle, c.head, c.body, c.write, c.linger] && allW 0 1073741824 [c.pace, c.cap] && allW 0 1048576 [c.paceBytes, c.base]

theorem cells_new (w : World) (t : TypeId) (xs : List Int) (b : Nat) (hb : b = w.heap.size) :
    ∀ k, k < xs.length → (w.alloc (.cells (xs.map (Value.int .i64)).toArray t)).cell? ⟨b, k, none⟩ = some (.int .i64 (xs.getD k 0)) := by
  intro k hk
  subst hb
  simp [List.getD, hk]

theorem within_say {lo hi : Int} {b : Nat} {w : World} {t : TypeId} (xs : List Int) (r : Bool) (hr : Hid (allW lo hi xs = r)) (hlen : xs.length ≤ 1000) (cap n : Nat) (hn : n = xs.length) (vs : Array Value) (hv : vs = (xs.map (Value.int .i64)).toArray)
    (hb : b = w.heap.size) :
    Calls Try.prog 26 #[.int .i64 lo, .int .i64 hi, .slice (some ⟨b, 0, none⟩) n cap] (w.alloc (.cells vs t)) fun e w' => e = .returned (.bool r) ∧ w.alloc (.cells vs t) = w' := by
  subst hn hv
  rw [← hr.out]; exact within_any lo hi b xs cap _ hlen (cells_new w t xs b hb)

set_option maxHeartbeats 1000000 in
theorem isConfig_any (c : Cfg) (w : World) :
    Calls Try.prog 24 #[.agg c.vals] w fun e w' => e = .returned (.bool c.ok) ∧ Sm No w w' := by
  unfold Cfg.ok Cfg.vals
  obtain ⟨r1, h1⟩ : ∃ r, allW 1 64 [c.maxConns, c.maxPerPeer, c.pipeline] = r := ⟨_, rfl⟩
  obtain ⟨r2, h2⟩ : ∃ r, allW 0 4096 [c.buffers] = r := ⟨_, rfl⟩
  obtain ⟨r3, h3⟩ : ∃ r, allW 1 1073741824 [c.idle, c.head, c.body, c.write, c.linger] = r := ⟨_, rfl⟩
  obtain ⟨r4, h4⟩ : ∃ r, allW 0 1073741824 [c.pace, c.cap] = r := ⟨_, rfl⟩
  obtain ⟨r5, h5⟩ : ∃ r, allW 0 1048576 [c.paceBytes, c.base] = r := ⟨_, rfl⟩
  rw [h1, h2, h3, h4, h5]
  have H1 := Lib.hid h1
  have H2 := Lib.hid h2
  have H3 := Lib.hid h3
  have H4 := Lib.hid h4
  have H5 := Lib.hid h5
  clear h1 h2 h3 h4 h5
  cases r1
  · go_enter Try.func24, Try.ntmps24
    go_wp2_with fail
    refine (within_say _ _ H1 (by simp) _ _ rfl _ rfl (by simp)).mono ?_
    rintro e w' ⟨rfl, rfl⟩
    go_wp2_with fail
    go_ret
    exact ⟨ret_b (by simp), by repeat (first | exact Sm.refl _ _ | apply Sm.alloc)⟩
  · cases r2
    · go_enter Try.func24, Try.ntmps24
      go_wp2_with fail
      refine (within_say _ _ H1 (by simp) _ _ rfl _ rfl (by simp)).mono ?_
      rintro e w' ⟨rfl, rfl⟩
      go_wp2_with fail
      refine (within_say _ _ H2 (by simp) _ _ rfl _ rfl (by simp)).mono ?_
      rintro e w' ⟨rfl, rfl⟩
      go_wp2_with fail
      go_ret
      exact ⟨ret_b (by simp), by repeat (first | exact Sm.refl _ _ | apply Sm.alloc)⟩
    · cases r3
      · go_enter Try.func24, Try.ntmps24
        go_wp2_with fail
        refine (within_say _ _ H1 (by simp) _ _ rfl _ rfl (by simp)).mono ?_
        rintro e w' ⟨rfl, rfl⟩
        go_wp2_with fail
        refine (within_say _ _ H2 (by simp) _ _ rfl _ rfl (by simp)).mono ?_
        rintro e w' ⟨rfl, rfl⟩
        go_wp2_with fail
        refine (within_say _ _ H3 (by simp) _ _ rfl _ rfl (by simp)).mono ?_
        rintro e w' ⟨rfl, rfl⟩
        go_wp2_with fail
        go_ret
        exact ⟨ret_b (by simp), by repeat (first | exact Sm.refl _ _ | apply Sm.alloc)⟩
      · cases r4
        · go_enter Try.func24, Try.ntmps24
          go_wp2_with fail
          refine (within_say _ _ H1 (by simp) _ _ rfl _ rfl (by simp)).mono ?_
          rintro e w' ⟨rfl, rfl⟩
          go_wp2_with fail
          refine (within_say _ _ H2 (by simp) _ _ rfl _ rfl (by simp)).mono ?_
          rintro e w' ⟨rfl, rfl⟩
          go_wp2_with fail
          refine (within_say _ _ H3 (by simp) _ _ rfl _ rfl (by simp)).mono ?_
          rintro e w' ⟨rfl, rfl⟩
          go_wp2_with fail
          refine (within_say _ _ H4 (by simp) _ _ rfl _ rfl (by simp)).mono ?_
          rintro e w' ⟨rfl, rfl⟩
          go_wp2_with fail
          go_ret
          exact ⟨ret_b (by simp), by repeat (first | exact Sm.refl _ _ | apply Sm.alloc)⟩
        · cases r5
          · go_enter Try.func24, Try.ntmps24
            go_wp2_with fail
            refine (within_say _ _ H1 (by simp) _ _ rfl _ rfl (by simp)).mono ?_
            rintro e w' ⟨rfl, rfl⟩
            go_wp2_with fail
            refine (within_say _ _ H2 (by simp) _ _ rfl _ rfl (by simp)).mono ?_
            rintro e w' ⟨rfl, rfl⟩
            go_wp2_with fail
            refine (within_say _ _ H3 (by simp) _ _ rfl _ rfl (by simp)).mono ?_
            rintro e w' ⟨rfl, rfl⟩
            go_wp2_with fail
            refine (within_say _ _ H4 (by simp) _ _ rfl _ rfl (by simp)).mono ?_
            rintro e w' ⟨rfl, rfl⟩
            go_wp2_with fail
            refine (within_say _ _ H5 (by simp) _ _ rfl _ rfl (by simp)).mono ?_
            rintro e w' ⟨rfl, rfl⟩
            go_wp2_with fail
            go_ret
            exact ⟨ret_b (by simp), by repeat (first | exact Sm.refl _ _ | apply Sm.alloc)⟩
          · go_enter Try.func24, Try.ntmps24
            go_wp2_with fail
            refine (within_say _ _ H1 (by simp) _ _ rfl _ rfl (by simp)).mono ?_
            rintro e w' ⟨rfl, rfl⟩
            go_wp2_with fail
            refine (within_say _ _ H2 (by simp) _ _ rfl _ rfl (by simp)).mono ?_
            rintro e w' ⟨rfl, rfl⟩
            go_wp2_with fail
            refine (within_say _ _ H3 (by simp) _ _ rfl _ rfl (by simp)).mono ?_
            rintro e w' ⟨rfl, rfl⟩
            go_wp2_with fail
            refine (within_say _ _ H4 (by simp) _ _ rfl _ rfl (by simp)).mono ?_
            rintro e w' ⟨rfl, rfl⟩
            go_wp2_with fail
            refine (within_say _ _ H5 (by simp) _ _ rfl _ rfl (by simp)).mono ?_
            rintro e w' ⟨rfl, rfl⟩
            go_wp2_with fail
            go_ret
            exact ⟨ret_b (by simp), by repeat (first | exact Sm.refl _ _ | apply Sm.alloc)⟩

end Go.Proofs.Ytkgafpmblmobeaa
