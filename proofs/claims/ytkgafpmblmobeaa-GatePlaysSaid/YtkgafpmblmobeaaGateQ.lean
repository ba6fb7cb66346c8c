/- The reference's Gate: what it does, what it answers. -/
import Derived.Test.YtkgafpmblmobeaaGateP
import Derived.Test.YtkgafpmblmobeaaGateL
import Derived.StillTailTactics
namespace Go.Proofs.Ytkgafpmblmobeaa
open Go.RowKit Go.Proofs Go.Maps

theorem ref_end {w w' : World} {g m n : Nat} {c : Cfg} {f : Int → Int} {s s' : RS} (h : IsRef w g m n c f s) (hs : Sm (· = g) w w') (hb : Bk w' g 48 (refVals c m s')) : IsRef w' g m n c f s' ∧ Sm (· = g) w w' :=
  ⟨⟨hb, h.map.sm hs (fun e => h.ne e.symm), h.ne⟩, hs⟩
theorem IsRef.sm {S : Nat → Prop} {w w' : World} {g m n : Nat} {c : Cfg} {f : Int → Int} {s : RS} (h : IsRef w g m n c f s) (hs : Sm S w w') (hg : ¬ S g) (hm : ¬ S m) : IsRef w' g m n c f s :=
  ⟨h.blk.sm hs hg, h.map.sm hs hm, h.ne⟩
theorem IsRef.drewN {w : World} {g m n : Nat} {c : Cfg} {f : Int → Int} {s : RS} (h : IsRef w g m n c f s) (k : Nat) : IsRef (w.drewN k) g m n c f s := ⟨h.blk.drewN k, h.map.drewN k, h.ne⟩
theorem IsRef.alloc {w : World} {g m n : Nat} {c : Cfg} {f : Int → Int} {s : RS} (h : IsRef w g m n c f s) (o : Obj) : IsRef (w.alloc o) g m n c f s := ⟨h.blk.alloc o, h.map.alloc o, h.ne⟩

def fullR (c : Cfg) (s : RS) : Bool := decide (c.maxConns ≤ s.all)
def mayR (c : Cfg) (now : Int) (s : RS) : Bool := !s.stopped && decide (s.till ≤ now) && (!fullR c s || c.refuse || c.evict)

set_option maxHeartbeats 1000000 in
theorem reffull_any (c : Cfg) (s : RS) (w : World) (g m : Nat) (hb : Bk w g 48 (refVals c m s)) :
    Calls Try.prog 22 #[.pointer (some ⟨g, 0, none⟩)] w fun e w' => e = .returned (.bool (fullR c s)) ∧ ∃ n, w' = w.drewN n := by
  have k0 : w.cell? ⟨g, 0, none⟩ = some (.int .i64 c.maxConns) := hb.at 0 rfl
  have k17 : w.cell? ⟨g, 17, none⟩ = some (.int .i64 s.all) := hb.at 17 rfl
  by_cases h : c.maxConns ≤ s.all
  all_goals
    go_enter Try.func22, Try.ntmps22
    go_wp2_with fail
    go_quiet (fail)
    go_wp2
    go_ret
    exact ⟨ret_b (by simp [fullR, h]), nq, rfl⟩

theorem reffull_say {c : Cfg} {s : RS} {r : Bool} (hr : Hid (fullR c s = r)) (w : World) (g m : Nat) (hb : Bk w g 48 (refVals c m s)) :
    Calls Try.prog 22 #[.pointer (some ⟨g, 0, none⟩)] w fun e w' => e = .returned (.bool r) ∧ ∃ n, w' = w.drewN n := by
  rw [← hr.out]; exact reffull_any c s w g m hb

set_option maxHeartbeats 1000000 in
theorem refmay_any (c : Cfg) (s : RS) (w : World) (g m : Nat) (now : Int) (hb : Bk w g 48 (refVals c m s)) :
    Calls Try.prog 23 #[.pointer (some ⟨g, 0, none⟩), .int .i64 now] w fun e w' => e = .returned (.bool (mayR c now s)) ∧ ∃ n, w' = w.drewN n := by
  obtain ⟨st, hst⟩ : ∃ st, s.stopped = st := ⟨_, rfl⟩
  obtain ⟨fu, hfu⟩ : ∃ fu, fullR c s = fu := ⟨_, rfl⟩
  obtain ⟨re, hre⟩ : ∃ re, c.refuse = re := ⟨_, rfl⟩
  obtain ⟨ev, hev⟩ : ∃ ev, c.evict = ev := ⟨_, rfl⟩
  have k13 : w.cell? ⟨g, 13, none⟩ = some (.bool re) := by rw [← hre]; exact hb.at 13 rfl
  have k14 : w.cell? ⟨g, 14, none⟩ = some (.bool ev) := by rw [← hev]; exact hb.at 14 rfl
  have k19 : w.cell? ⟨g, 19, none⟩ = some (.int .i64 s.till) := hb.at 19 rfl
  have k20 : w.cell? ⟨g, 20, none⟩ = some (.bool st) := by rw [← hst]; exact hb.at 20 rfl
  have hm : mayR c now s = (!st && decide (s.till ≤ now) && (!fu || re || ev)) := by simp [mayR, hst, hfu, hre, hev]
  rw [hm]
  have HU := Lib.hid hfu
  clear hst hfu hre hev hm
  cases st
  case true =>
    go_enter Try.func23, Try.ntmps23
    go_wp2_with fail
    go_ret
    exact ⟨ret_b (by simp), 0, rfl⟩
  case false =>
    by_cases h : s.till ≤ now
    · have ht : decide (s.till ≤ now) = true := by simp [h]
      have HT := Lib.hid ht
      clear ht
      go_enter Try.func23, Try.ntmps23
      go_wp2_with fail
      refine (reffull_say HU _ g m hb).mono ?_
      rintro e w' ⟨rfl, n, rfl⟩
      cases fu
      · go_wp2_with fail
        go_ret
        exact ⟨ret_b (by rw [HT.out]; simp), n, rfl⟩
      · cases re
        · go_wp2_with fail
          go_ret
          exact ⟨ret_b (by rw [HT.out]; simp), n, rfl⟩
        · go_wp2_with fail
          go_ret
          exact ⟨ret_b (by rw [HT.out]; simp), n, rfl⟩
    · have ht : decide (s.till ≤ now) = false := by simp [h]
      have HT := Lib.hid ht
      clear ht
      go_enter Try.func23, Try.ntmps23
      go_wp2_with fail
      go_ret
      exact ⟨ret_b (by rw [HT.out]; simp), 0, rfl⟩

def fitsR (c : Cfg) (f : Int → Int) (p : Int) (s : RS) : Bool := decide (f p < c.maxPerPeer) && !fullR c s

set_option maxHeartbeats 1000000 in
theorem reftook_keep (c : Cfg) (s : RS) (w : World) (g m n : Nat) (f : Int → Int) (p : Int) (hG : IsRef w g m n c f s) (hp : (Lit.int .i64 p).wf = true) (hn : n < 1000000)
    (hf0 : 0 ≤ f p) (hf1 : f p ≤ 1000000) (ha0 : 0 ≤ s.all) (ha1 : s.all ≤ 1000000) (hfit : fitsR c f p s = true) :
    Calls Try.prog 18 #[.pointer (some ⟨g, 0, none⟩), .int .i64 p] w fun e w' => e = .returned (.int .i64 1) ∧
      IsRef w' g m (n + 1) c (upd f p (f p + 1)) { s with fails := 0, all := s.all + 1 } ∧ Sm (fun b => b = g ∨ b = m) w w' := by
  have h1 : f p < c.maxPerPeer := by simp [fitsR] at hfit; exact hfit.1
  have h2 : fullR c s = false := by simp [fitsR] at hfit; exact hfit.2
  have HU := Lib.hid h2
  clear h2 hfit
  have k18 : w.cell? ⟨g, 18, none⟩ = some (.int .i64 s.fails) := hG.blk.at 18 rfl
  have z18 := hG.blk.fz 18
  have hm1 : InMap (w.setCell ⟨g, 18, none⟩ (.int .i64 0)) m n f := hG.map.sm ((Sm.refl (fun x => x = g) w).set1 18 _) (fun e => hG.ne e.symm)
  have hb1 : Bk (w.setCell ⟨g, 18, none⟩ (.int .i64 0)) g 48 (refVals c m ⟨s.all, 0, s.till, s.stopped⟩) := (hG.blk.set 18 (.int .i64 0)).eq (by rfl)
  have hs1 : Sm (fun b => b = g ∨ b = m) w (w.setCell ⟨g, 18, none⟩ (.int .i64 0)) := (Sm.refl _ w).setS (Or.inl rfl) 18 _
  go_enter Try.func18, Try.ntmps18
  go_wp2_with fail
  clear k18 z18
  generalize w.setCell ⟨g, 18, none⟩ (.int .i64 0) = w1 at *
  have k1 : w1.cell? ⟨g, 1, none⟩ = some (.int .i64 c.maxPerPeer) := hb1.at 1 rfl
  have k16 : w1.cell? ⟨g, 16, none⟩ = some (.map (some m)) := hb1.at 16 rfl
  have k17 : w1.cell? ⟨g, 17, none⟩ = some (.int .i64 s.all) := hb1.at 17 rfl
  have z17 := hb1.fz 17
  have hl := (hm1.look hp).1
  have hl1 := fun nq => ((hm1.drewN nq).look hp).1
  go_quiet ((go_at_call 22; exact Calls.quiet_of (reffull_say (s := ⟨s.all, 0, s.till, s.stopped⟩) HU _ g m (hb1.drewN _))))
  have hm2 := hm1.drewN nq
  go_wp2_with (at_mapUpdate; refine wpList_put_in rfl _ _ _ rfl m n f rfl hm2 (by unfold maxLen; omega) _ _ rfl rfl hp (WalkArith.wf_i64 (by omega)) ?_; intro w2 hm3 hg2; clear hl hl1 k1 k16 k17 z17; have hb2 := (hb1.drewN nq).grown hg2 (fun e => hG.ne (by injection e)); have k17 : w2.cell? ⟨g, 17, none⟩ = some (.int .i64 s.all) := hb2.at 17 rfl; have z17 := hb2.fz 17)
  go_ret
  refine ⟨rfl, ⟨(hb2.set 17 _).eq (by rfl), hm3.sm ((Sm.refl (fun x => x = g) w2).set1 17 _) (fun e => hG.ne e.symm), hG.ne⟩, ((hs1.drewN nq).grown hg2 (fun k e => Or.inl (Or.inr (by injection e with e; exact e.symm)))).setS (Or.inl rfl) 17 _⟩

set_option maxHeartbeats 1000000 in
theorem reftook_not (c : Cfg) (s : RS) (w : World) (g m n : Nat) (f : Int → Int) (p : Int) (hG : IsRef w g m n c f s) (hp : (Lit.int .i64 p).wf = true)
    (hfit : fitsR c f p s = false) :
    Calls Try.prog 18 #[.pointer (some ⟨g, 0, none⟩), .int .i64 p] w fun e w' => e = .returned (.int .i64 (if c.refuse then 2 else 3)) ∧
      IsRef w' g m n c f { s with fails := 0 } ∧ Sm (fun b => b = g ∨ b = m) w w' := by
  obtain ⟨fu, hfu⟩ : ∃ fu, fullR c s = fu := ⟨_, rfl⟩
  obtain ⟨re, hre⟩ : ∃ re, c.refuse = re := ⟨_, rfl⟩
  have HU := Lib.hid hfu
  have k18 : w.cell? ⟨g, 18, none⟩ = some (.int .i64 s.fails) := hG.blk.at 18 rfl
  have z18 := hG.blk.fz 18
  have hm1 : InMap (w.setCell ⟨g, 18, none⟩ (.int .i64 0)) m n f := hG.map.sm ((Sm.refl (fun x => x = g) w).set1 18 _) (fun e => hG.ne e.symm)
  have hb1 : Bk (w.setCell ⟨g, 18, none⟩ (.int .i64 0)) g 48 (refVals c m ⟨s.all, 0, s.till, s.stopped⟩) := (hG.blk.set 18 (.int .i64 0)).eq (by rfl)
  have hs1 : Sm (fun b => b = g ∨ b = m) w (w.setCell ⟨g, 18, none⟩ (.int .i64 0)) := (Sm.refl _ w).setS (Or.inl rfl) 18 _
  have k13 : (w.setCell ⟨g, 18, none⟩ (.int .i64 0)).cell? ⟨g, 13, none⟩ = some (.bool re) := by rw [← hre]; exact hb1.at 13 rfl
  rw [hre]
  have k1 : (w.setCell ⟨g, 18, none⟩ (.int .i64 0)).cell? ⟨g, 1, none⟩ = some (.int .i64 c.maxPerPeer) := hb1.at 1 rfl
  have k16 : (w.setCell ⟨g, 18, none⟩ (.int .i64 0)).cell? ⟨g, 16, none⟩ = some (.map (some m)) := hb1.at 16 rfl
  have hl := (hm1.look hp).1
  have hl1 := fun nq => ((hm1.drewN nq).look hp).1
  have hfin : ∀ (v : Value) (nq : Nat), v = .int .i64 (if re then 2 else 3) → Ending.returned v = .returned (.int .i64 (if re then 2 else 3)) ∧ IsRef ((w.setCell ⟨g, 18, none⟩ (.int .i64 0)).drewN nq) g m n c f { s with fails := 0 } ∧ Sm (fun b => b = g ∨ b = m) w ((w.setCell ⟨g, 18, none⟩ (.int .i64 0)).drewN nq) :=
    fun v nq hv => ⟨by rw [hv], ⟨hb1.drewN nq, hm1.drewN nq, hG.ne⟩, hs1.drewN nq⟩
  clear hre
  by_cases h1 : f p < c.maxPerPeer
  · have h2 : fu = true := by simp [fitsR, h1, hfu] at hfit; exact hfit
    have hd : decide (c.maxPerPeer ≤ f p) = false := by simp; omega
    subst h2
    clear hfu hfit
    go_enter Try.func18, Try.ntmps18
    go_wp2_with fail
    clear k18 z18
    generalize w.setCell ⟨g, 18, none⟩ (.int .i64 0) = w1 at *
    go_quiet ((go_at_call 22; exact Calls.quiet_of (reffull_say (s := ⟨s.all, 0, s.till, s.stopped⟩) HU _ g m (hb1.drewN _))))
    cases re
    · go_wp2
      go_ret
      exact hfin _ nq rfl
    · go_wp2
      go_ret
      exact hfin _ nq rfl
  · have hd : c.maxPerPeer ≤ f p := by omega
    have hd' : decide (c.maxPerPeer ≤ f p) = true := by simpa using hd
    clear hfu hfit HU h1
    go_enter Try.func18, Try.ntmps18
    go_wp2_with fail
    clear k18 z18
    generalize w.setCell ⟨g, 18, none⟩ (.int .i64 0) = w1 at *
    go_quiet (fail)
    cases re
    · go_wp2
      go_ret
      exact hfin _ nq rfl
    · go_wp2
      go_ret
      exact hfin _ nq rfl
end Go.Proofs.Ytkgafpmblmobeaa
