/- The plain config; a new Gate, by both packages. -/
import Derived.Test.YtkgafpmblmobeaaGateB
import Derived.Test.YtkgafpmblmobeaaLaws
import Derived.Maps.OwnSet
namespace Go.Proofs.Ytkgafpmblmobeaa
open Go.RowKit Go.Proofs Go.Maps

theorem infoCfg : (Try.prog.info? 25).map (·.size) = some 16 := by kernel_rfl

set_option maxHeartbeats 1000000 in
theorem plain_any (w : World) : Calls Try.prog 9 #[] w fun e w' => e = .returned (.agg (Cfg.vals ⟨3, 2, 1, 0, 1, 1, 1, 1, 1, 0, 0, 3, 10, false, false, none, 0, 0⟩)) ∧ Sm No w w' := by
  go_enter Try.func9, Try.ntmps9
  go_wp2_with (refine wpList_store_new rfl 25 _ _ rfl 16 infoCfg _ rfl _ rfl rfl rfl rfl rfl ?_)
  exact bodyPost_ret (results_bk Try.results9 _ w.heap.size rfl (Bk.new w _ _) Try.underlying25 infoCfg rfl) rfl ⟨rfl, by repeat (first | exact Sm.refl _ _ | apply Sm.alloc)⟩

/-- The program's Gate at block g: its config, its map's block m, its numbers. -/
structure GS where
  all : Int
  fails : Int
  delay : Int
  till : Int
  stopped : Bool

def gateVals (c : Cfg) (m : Nat) (s : GS) : Array Value := #[.int .i64 c.maxConns, .int .i64 c.maxPerPeer, .int .i64 c.pipeline, .int .i64 c.buffers, .int .i64 c.idle, .int .i64 c.head, .int .i64 c.body, .int .i64 c.write, .int .i64 c.linger,
  .int .i64 c.pace, .int .i64 c.paceBytes, .int .i64 c.base, .int .i64 c.cap, .bool c.refuse, .bool c.evict, .slice c.ta c.tl c.tc, .map (some m), .int .i64 s.all, .int .i64 s.fails, .int .i64 s.delay, .int .i64 s.till, .bool s.stopped]

/-- Block m is a map of at most n peers that says of each peer how many are in. -/
def InMap (w : World) (m n : Nat) (f : Int → Int) : Prop :=
  ∃ D : DataW Unit, w.ownsMap Try.prog 3 (plainElem Try.prog 3) m n D ∧ ∀ p, (Lit.int .i64 p).wf = true → D.atKey (.int .i64 p) (.lit (.int .i64 0)) = .lit (.int .i64 (f p))

structure IsGate (w : World) (g m n : Nat) (c : Cfg) (f : Int → Int) (s : GS) : Prop where
  blk : Bk w g 53 (gateVals c m s)
  map : InMap w m n f
  ne : g ≠ m

theorem InMap.sm {S : Nat → Prop} {w w' : World} {m n : Nat} {f : Int → Int} (h : InMap w m n f) (hs : Sm S w w') (hm : ¬ S m) : InMap w' m n f := by
  obtain ⟨D, h1, h2⟩ := h
  exact ⟨D, own_sm h1 hs hm, h2⟩

theorem InMap.alloc {w : World} {m n : Nat} {f : Int → Int} (h : InMap w m n f) (o : Obj) : InMap (w.alloc o) m n f := h.sm ((Sm.refl No w).alloc o) (fun h => h)
theorem InMap.drewN {w : World} {m n : Nat} {f : Int → Int} (h : InMap w m n f) (k : Nat) : InMap (w.drewN k) m n f := h.sm ((Sm.refl No w).drewN k) (fun h => h)
theorem InMap.made (w : World) {m : Nat} (hm : m = w.heap.size) : InMap (w.alloc (.map #[] 0)) m 0 (fun _ => 0) := by
  subst hm
  exact ⟨.map [], World.ownsMap_made w _ _ _, fun p _ => rfl⟩

theorem law3 : Keyed Try.prog 3 := int_keyed Try.underlying3
theorem zero3 (w : World) : (zeroValue 3).run Try.prog w = .ok (.int .i64 0) w := by kernel_rfl

theorem cfg_cells {w : World} {g : Nat} {t : TypeId} {c : Cfg} (h : Bk w g t c.vals) : w.cell? ⟨g, 0, none⟩ = some (.int .i64 c.maxConns) ∧ w.cell? ⟨g, 1, none⟩ = some (.int .i64 c.maxPerPeer) ∧ w.cell? ⟨g, 2, none⟩ = some (.int .i64 c.pipeline) ∧ w.cell? ⟨g, 3, none⟩ = some (.int .i64 c.buffers) ∧ w.cell? ⟨g, 4, none⟩ = some (.int .i64 c.idle) ∧ w.cell? ⟨g, 5, none⟩ = some (.int .i64 c.head) ∧ w.cell? ⟨g, 6, none⟩ = some (.int .i64 c.body) ∧ w.cell? ⟨g, 7, none⟩ = some (.int .i64 c.write) ∧ w.cell? ⟨g, 8, none⟩ = some (.int .i64 c.linger) ∧ w.cell? ⟨g, 9, none⟩ = some (.int .i64 c.pace) ∧ w.cell? ⟨g, 10, none⟩ = some (.int .i64 c.paceBytes) ∧ w.cell? ⟨g, 11, none⟩ = some (.int .i64 c.base) ∧ w.cell? ⟨g, 12, none⟩ = some (.int .i64 c.cap) ∧ w.cell? ⟨g, 13, none⟩ = some (.bool c.refuse) ∧ w.cell? ⟨g, 14, none⟩ = some (.bool c.evict) ∧ w.cell? ⟨g, 15, none⟩ = some (.slice c.ta c.tl c.tc) :=
  ⟨h.at 0 rfl, h.at 1 rfl, h.at 2 rfl, h.at 3 rfl, h.at 4 rfl, h.at 5 rfl, h.at 6 rfl, h.at 7 rfl, h.at 8 rfl, h.at 9 rfl, h.at 10 rfl, h.at 11 rfl, h.at 12 rfl, h.at 13 rfl, h.at 14 rfl, h.at 15 rfl⟩
theorem gate_cells {w : World} {g m : Nat} {t : TypeId} {c : Cfg} {s : GS} (h : Bk w g t (gateVals c m s)) : w.cell? ⟨g, 0, none⟩ = some (.int .i64 c.maxConns) ∧ w.cell? ⟨g, 1, none⟩ = some (.int .i64 c.maxPerPeer) ∧ w.cell? ⟨g, 2, none⟩ = some (.int .i64 c.pipeline) ∧ w.cell? ⟨g, 3, none⟩ = some (.int .i64 c.buffers) ∧ w.cell? ⟨g, 4, none⟩ = some (.int .i64 c.idle) ∧ w.cell? ⟨g, 5, none⟩ = some (.int .i64 c.head) ∧ w.cell? ⟨g, 6, none⟩ = some (.int .i64 c.body) ∧ w.cell? ⟨g, 7, none⟩ = some (.int .i64 c.write) ∧ w.cell? ⟨g, 8, none⟩ = some (.int .i64 c.linger) ∧ w.cell? ⟨g, 9, none⟩ = some (.int .i64 c.pace) ∧ w.cell? ⟨g, 10, none⟩ = some (.int .i64 c.paceBytes) ∧ w.cell? ⟨g, 11, none⟩ = some (.int .i64 c.base) ∧ w.cell? ⟨g, 12, none⟩ = some (.int .i64 c.cap) ∧ w.cell? ⟨g, 13, none⟩ = some (.bool c.refuse) ∧ w.cell? ⟨g, 14, none⟩ = some (.bool c.evict) ∧ w.cell? ⟨g, 15, none⟩ = some (.slice c.ta c.tl c.tc) ∧ w.cell? ⟨g, 16, none⟩ = some (.map (some m)) ∧ w.cell? ⟨g, 17, none⟩ = some (.int .i64 s.all) ∧ w.cell? ⟨g, 18, none⟩ = some (.int .i64 s.fails) ∧ w.cell? ⟨g, 19, none⟩ = some (.int .i64 s.delay) ∧ w.cell? ⟨g, 20, none⟩ = some (.int .i64 s.till) ∧ w.cell? ⟨g, 21, none⟩ = some (.bool s.stopped) :=
  ⟨h.at 0 rfl, h.at 1 rfl, h.at 2 rfl, h.at 3 rfl, h.at 4 rfl, h.at 5 rfl, h.at 6 rfl, h.at 7 rfl, h.at 8 rfl, h.at 9 rfl, h.at 10 rfl, h.at 11 rfl, h.at 12 rfl, h.at 13 rfl, h.at 14 rfl, h.at 15 rfl, h.at 16 rfl, h.at 17 rfl, h.at 18 rfl, h.at 19 rfl, h.at 20 rfl, h.at 21 rfl⟩
theorem isConfig_say {c : Cfg} {w : World} {r : Bool} (h : Hid (c.ok = r)) : Calls Try.prog 24 #[.agg c.vals] w fun e w' => e = .returned (.bool r) ∧ Sm No w w' := by
  rw [← h.out]; exact isConfig_any c w

set_option maxHeartbeats 1000000 in
theorem new_ok (c : Cfg) (w : World) (hc : c.ok = true) : Calls Try.prog 10 #[.agg c.vals] w fun e w' =>
    ∃ g m, w.heap.size ≤ g ∧ w.heap.size ≤ m ∧ e = .returned (.tuple #[.pointer (some ⟨g, 0, none⟩), .int .i64 0]) ∧ IsGate w' g m 0 c (fun _ => 0) ⟨0, 0, 0, 0, false⟩ ∧ Sm No w w' := by
  have Hc := Lib.hid hc
  clear hc
  have hmm := @run_makeMap Try.prog
  unfold Cfg.vals
  go_enter Try.func10, Try.ntmps10
  go_wp2_with (refine wpList_load_bk rfl 25 _ rfl Try.underlying25 16 infoCfg _ rfl _ (Bk.new _ _ _) rfl ?_)
  refine (isConfig_say Hc).mono ?_
  rintro e w1 ⟨rfl, hs⟩
  have hb1 := (Bk.new w 25 c.vals).sm hs (fun h => h.elim)
  unfold Cfg.vals at hb1
  have hsz := hs.size
  simp only [World.size_alloc] at hsz
  go_wp2_with (refine wpList_load_bk rfl 25 _ rfl Try.underlying25 16 infoCfg _ rfl _ hb1 rfl ?_)
  go_ret2
  refine ⟨w1.heap.size + 1, w1.heap.size, by omega, by omega, rfl, ⟨?_, ?_, by omega⟩, ?_⟩
  · exact Bk.newAt (w1.alloc (.map #[] 0)) _ _ (by simp)
  · exact (InMap.made w1 rfl).alloc _
  · exact ((((Sm.refl No w).alloc _).trans hs (fun _ _ h => h)).alloc _).alloc _

theorem new_no (c : Cfg) (w : World) (hc : c.ok = false) : Calls Try.prog 10 #[.agg c.vals] w fun e w' =>
    e = .returned (.tuple #[.pointer none, .int .i64 1]) ∧ Sm No w w' := by
  have Hc := Lib.hid hc
  clear hc
  unfold Cfg.vals
  go_enter Try.func10, Try.ntmps10
  go_wp2_with (refine wpList_load_bk rfl 25 _ rfl Try.underlying25 16 infoCfg _ rfl _ (Bk.new _ _ _) rfl ?_)
  refine (isConfig_say Hc).mono ?_
  rintro e w1 ⟨rfl, hs⟩
  go_wp2_with fail
  go_ret2
  exact ⟨rfl, ((Sm.refl No w).alloc _).trans hs (fun _ _ h => h)⟩

end Go.Proofs.Ytkgafpmblmobeaa
