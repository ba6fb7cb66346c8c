/- What a Gate does with somebody: Took. -/
import Derived.Test.YtkgafpmblmobeaaGateE
namespace Go.Proofs.Ytkgafpmblmobeaa
open Go.RowKit Go.Proofs Go.Maps

def upd (f : Int → Int) (p q : Int) : Int → Int := fun k => if k = p then q else f k

theorem keyLit_ne {a b : Int} (h : a ≠ b) : Lit.int .i64 a ≠ Lit.int .i64 b := by
  intro e; injection e with _ e; exact h e

theorem InMap.put {w : World} {m n : Nat} {f : Int → Int} (h : InMap w m n f) (hn : n < maxLen) {p q : Int} (hp : (Lit.int .i64 p).wf = true) (hq : (Lit.int .i64 q).wf = true) :
    ∃ w', (Instr.mapUpdate 38 (.map (some m)) (.int .i64 p) (.int .i64 q)).run Try.prog w = .ok () w' ∧ InMap w' m (n + 1) (upd f p q) ∧ w.grownBy w' (some m) := by
  obtain ⟨D, h1, h2⟩ := h
  obtain ⟨w', hrun, ho, hg⟩ := h1.update law3 Try.underlying38 hn (keyOf_int_mk Try.underlying3 hp) (plainElem_int Try.underlying3 hq)
  refine ⟨w', hrun, ⟨_, ho, fun k hk => ?_⟩, hg⟩
  obtain ⟨es, clock, _, _, _, hD⟩ := h1
  have hmap : IsMap D := ⟨_, hD⟩
  unfold upd
  by_cases e : k = p
  · subst e
    rw [if_pos rfl]
    exact atKey_put_same hmap (by simp [WideAt.IsKeyLit]) _ _
  · rw [if_neg e, atKey_put_other (keyLit_ne e)]
    exact h2 k hk

theorem wpList_put_in {w : World} {ops : Array Oper} {rest : List Oper} {o : Oper} {a : Act} {Q : Exit → Act → World → Prop} (hgd : o.guard = none) (mo x v : Operand) (hop : o.op = .mapUpdate 38 mo x v)
    (m n : Nat) (f : Int → Int) (hm : a.eval mo = .map (some m)) (h : InMap w m n f) (hn : n < maxLen) (p q : Int) (hx : a.eval x = .int .i64 p) (hv : a.eval v = .int .i64 q) (hp : (Lit.int .i64 p).wf = true) (hq : (Lit.int .i64 q).wf = true)
    (hK : ∀ w', InMap w' m (n + 1) (upd f p q) → w.grownBy w' (some m) → wpList Try.prog ops Q rest (a.put o.dst undef) w') : wpList Try.prog ops Q (o :: rest) a w := by
  refine wpList_plain hgd fun K' hK' => ?_
  obtain ⟨w', hrun, r1, r2⟩ := h.put hn hp hq
  unfold Oper.wp
  simp [execOp, hop, hm, hx, hv, hrun, Result.andThen]
  exact hK' _ _ (hK w' r1 r2)

def fitsB (c : Cfg) (f : Int → Int) (p : Int) (s : GS) : Bool := decide (f p < c.maxPerPeer) && !fullB c s

set_option maxHeartbeats 1000000 in
theorem took_keep (c : Cfg) (s : GS) (w : World) (g m n : Nat) (f : Int → Int) (p : Int) (hG : IsGate w g m n c f s) (hp : (Lit.int .i64 p).wf = true) (hn : n < 1000000)
    (hf0 : 0 ≤ f p) (hf1 : f p ≤ 1000000) (ha0 : 0 ≤ s.all) (ha1 : s.all ≤ 1000000) (hfit : fitsB c f p s = true) :
    Calls Try.prog 14 #[.pointer (some ⟨g, 0, none⟩), .int .i64 p] w fun e w' => e = .returned (.int .i64 1) ∧
      IsGate w' g m (n + 1) c (upd f p (f p + 1)) { s with fails := 0, all := s.all + 1 } ∧ Sm (fun b => b = g ∨ b = m) w w' := by
  have h1 : f p < c.maxPerPeer := by simp [fitsB] at hfit; exact hfit.1
  have h2 : fullB c s = false := by simp [fitsB] at hfit; exact hfit.2
  have HU := Lib.hid h2
  clear h2 hfit
  have k18 : w.cell? ⟨g, 18, none⟩ = some (.int .i64 s.fails) := hG.blk.at 18 rfl
  have z18 := hG.blk.fz 18
  have hm1 : InMap (w.setCell ⟨g, 18, none⟩ (.int .i64 0)) m n f := hG.map.sm ((Sm.refl (fun x => x = g) w).set1 18 _) (fun e => hG.ne e.symm)
  have hb1 : Bk (w.setCell ⟨g, 18, none⟩ (.int .i64 0)) g 53 (gateVals c m ⟨s.all, 0, s.delay, s.till, s.stopped⟩) := (hG.blk.set 18 (.int .i64 0)).eq (by rfl)
  have hs1 : Sm (fun b => b = g ∨ b = m) w (w.setCell ⟨g, 18, none⟩ (.int .i64 0)) := (Sm.refl _ w).setS (Or.inl rfl) 18 _
  go_enter Try.func14, Try.ntmps14
  go_wp2_with fail
  clear k18 z18
  generalize w.setCell ⟨g, 18, none⟩ (.int .i64 0) = w1 at *
  have k1 : w1.cell? ⟨g, 1, none⟩ = some (.int .i64 c.maxPerPeer) := hb1.at 1 rfl
  have k16 : w1.cell? ⟨g, 16, none⟩ = some (.map (some m)) := hb1.at 16 rfl
  have k17 : w1.cell? ⟨g, 17, none⟩ = some (.int .i64 s.all) := hb1.at 17 rfl
  have z17 := hb1.fz 17
  have hl := (hm1.look hp).1
  have hl1 := fun nq => ((hm1.drewN nq).look hp).1
  go_quiet ((go_at_call 15; exact Calls.quiet_of (full_say (s := ⟨s.all, 0, s.delay, s.till, s.stopped⟩) HU _ g m (hb1.drewN _))))
  have hm2 := hm1.drewN nq
  go_wp2_with (at_mapUpdate; (refine wpList_put_in rfl _ _ _ rfl m n f rfl hm2 (by unfold maxLen; omega) _ _ rfl rfl hp (WalkArith.wf_i64 (by omega)) ?_); intro w2 hm3 hg2; clear hl hl1 k1 k16 k17 z17; have hb2 := (hb1.drewN nq).grown hg2 (fun e => hG.ne (by injection e)); have k17 : w2.cell? ⟨g, 17, none⟩ = some (.int .i64 s.all) := hb2.at 17 rfl; have z17 := hb2.fz 17)
  go_ret
  refine ⟨rfl, ⟨(hb2.set 17 _).eq (by rfl), hm3.sm ((Sm.refl (fun x => x = g) w2).set1 17 _) (fun e => hG.ne e.symm), hG.ne⟩, ((hs1.drewN nq).grown hg2 (fun k e => Or.inl (Or.inr (by injection e with e; exact e.symm)))).setS (Or.inl rfl) 17 _⟩

set_option maxHeartbeats 1000000 in
theorem took_not (c : Cfg) (s : GS) (w : World) (g m n : Nat) (f : Int → Int) (p : Int) (hG : IsGate w g m n c f s) (hp : (Lit.int .i64 p).wf = true)
    (hfit : fitsB c f p s = false) :
    Calls Try.prog 14 #[.pointer (some ⟨g, 0, none⟩), .int .i64 p] w fun e w' => e = .returned (.int .i64 (if c.refuse then 2 else 3)) ∧
      IsGate w' g m n c f { s with fails := 0 } ∧ Sm (fun b => b = g ∨ b = m) w w' := by
  obtain ⟨fu, hfu⟩ : ∃ fu, fullB c s = fu := ⟨_, rfl⟩
  obtain ⟨re, hre⟩ : ∃ re, c.refuse = re := ⟨_, rfl⟩
  have HU := Lib.hid hfu
  have k18 : w.cell? ⟨g, 18, none⟩ = some (.int .i64 s.fails) := hG.blk.at 18 rfl
  have z18 := hG.blk.fz 18
  have hm1 : InMap (w.setCell ⟨g, 18, none⟩ (.int .i64 0)) m n f := hG.map.sm ((Sm.refl (fun x => x = g) w).set1 18 _) (fun e => hG.ne e.symm)
  have hb1 : Bk (w.setCell ⟨g, 18, none⟩ (.int .i64 0)) g 53 (gateVals c m ⟨s.all, 0, s.delay, s.till, s.stopped⟩) := (hG.blk.set 18 (.int .i64 0)).eq (by rfl)
  have hs1 : Sm (fun b => b = g ∨ b = m) w (w.setCell ⟨g, 18, none⟩ (.int .i64 0)) := (Sm.refl _ w).setS (Or.inl rfl) 18 _
  have k13 : (w.setCell ⟨g, 18, none⟩ (.int .i64 0)).cell? ⟨g, 13, none⟩ = some (.bool re) := by rw [← hre]; exact hb1.at 13 rfl
  rw [hre]
  have k1 : (w.setCell ⟨g, 18, none⟩ (.int .i64 0)).cell? ⟨g, 1, none⟩ = some (.int .i64 c.maxPerPeer) := hb1.at 1 rfl
  have k16 : (w.setCell ⟨g, 18, none⟩ (.int .i64 0)).cell? ⟨g, 16, none⟩ = some (.map (some m)) := hb1.at 16 rfl
  have hl := (hm1.look hp).1
  have hl1 := fun nq => ((hm1.drewN nq).look hp).1
  have hfin : ∀ (v : Value) (nq : Nat), v = .int .i64 (if re then 2 else 3) → Ending.returned v = .returned (.int .i64 (if re then 2 else 3)) ∧ IsGate ((w.setCell ⟨g, 18, none⟩ (.int .i64 0)).drewN nq) g m n c f { s with fails := 0 } ∧ Sm (fun b => b = g ∨ b = m) w ((w.setCell ⟨g, 18, none⟩ (.int .i64 0)).drewN nq) :=
    fun v nq hv => ⟨by rw [hv], ⟨hb1.drewN nq, hm1.drewN nq, hG.ne⟩, hs1.drewN nq⟩
  clear hre
  by_cases h1 : f p < c.maxPerPeer
  · have h2 : fu = true := by simp [fitsB, h1, hfu] at hfit; exact hfit
    subst h2
    clear hfu hfit
    go_enter Try.func14, Try.ntmps14
    go_wp2_with fail
    clear k18 z18
    generalize w.setCell ⟨g, 18, none⟩ (.int .i64 0) = w1 at *
    go_quiet ((go_at_call 15; exact Calls.quiet_of (full_say (s := ⟨s.all, 0, s.delay, s.till, s.stopped⟩) HU _ g m (hb1.drewN _))))
    cases re
    · go_wp2
      go_ret
      exact hfin _ nq rfl
    · go_wp2
      go_ret
      exact hfin _ nq rfl
  · have hd : decide (f p < c.maxPerPeer) = false := by simp [h1]
    clear hfu hfit HU
    go_enter Try.func14, Try.ntmps14
    go_wp2_with fail
    clear k18 z18
    generalize w.setCell ⟨g, 18, none⟩ (.int .i64 0) = w1 at *
    go_quiet (fail)
    cases re
    · go_wp2
      go_ret
      exact hfin _ nq rfl
    · go_wp2
      go_ret
      exact hfin _ nq rfl
end Go.Proofs.Ytkgafpmblmobeaa
