/- The reference's Gate: a failure; those who leave. -/
import Derived.Test.YtkgafpmblmobeaaGateQ
namespace Go.Proofs.Ytkgafpmblmobeaa
open Go.RowKit Go.Proofs Go.Maps

def InvD (base : Int) (k j : Nat) (D : Int) : Prop := 1 ≤ j ∧ j ≤ k + 1 ∧ D = base * 2 ^ (j - 1) ∧ 0 ≤ D ∧ D ≤ 2147483648
theorem InvD.start {base : Int} (k : Nat) (h0 : 0 ≤ base) (h1 : base ≤ 1073741824) : InvD base k 1 base := ⟨by omega, by omega, by simp, h0, by omega⟩
theorem InvD.step {base : Int} {k j : Nat} {D : Int} (h : InvD base k j D) (hj : j < k + 1) (hD : D < 1073741824) : InvD base k (j + 1) (2 * D) := by
  obtain ⟨h1, h2, h3, h4, h5⟩ := h
  refine ⟨by omega, by omega, ?_, by omega, by omega⟩
  rw [show j + 1 - 1 = (j - 1) + 1 from by omega, Int.pow_succ, ← Int.mul_assoc, ← h3, Int.mul_comm]
theorem InvD.fin1 {base cap : Int} {k j : Nat} {D : Int} (h : InvD base k j D) (hj : ¬ j < k + 1) : min D cap = min (base * 2 ^ k) cap := by
  obtain ⟨h1, h2, h3, h4, h5⟩ := h
  rw [h3, show j - 1 = k from by omega]
theorem pow_le_mul {base : Int} (h0 : 0 ≤ base) (a b : Nat) : base * 2 ^ a ≤ base * 2 ^ (a + b) := by
  induction b with
  | zero => simp
  | succ b ih =>
    rw [← Nat.add_assoc, Int.pow_succ, ← Int.mul_assoc]
    have : 0 ≤ base * 2 ^ (a + b) := Int.mul_nonneg h0 (Int.pow_nonneg (by decide))
    omega
theorem InvD.fin2 {base cap : Int} {k j : Nat} {D : Int} (h : InvD base k j D) (h0 : 0 ≤ base) (hD : ¬ D < cap) : min D cap = min (base * 2 ^ k) cap := by
  obtain ⟨h1, h2, h3, h4, h5⟩ := h
  have := pow_le_mul h0 (j - 1) (k - (j - 1))
  rw [show j - 1 + (k - (j - 1)) = k from by omega, ← h3] at this
  omega
theorem InvD.fin3 {base cap : Int} {k j : Nat} {D : Int} (h : InvD base k j D) (hD : 2 * D = 0) : min 0 cap = min (base * 2 ^ k) cap := by
  obtain ⟨h1, h2, h3, h4, h5⟩ := h
  have h6 : base * 2 ^ (j - 1) = 0 := by omega
  have h7 : base = 0 := by
    rcases Int.mul_eq_zero.1 h6 with h | h
    · exact h
    · exact absurd h (Int.ne_of_gt (Int.pow_pos (by decide)))
  rw [h7]; simp

def refFailS (c : Cfg) (now : Int) (k : Nat) (s : RS) : RS := { s with fails := k + 1, till := max 0 (min now 1099511627776) + min (c.base * 2 ^ k) c.cap }

theorem reffail_shut {w : World} {g m k : Nat} {c : Cfg} {s : RS} {now u : Int} {t : TypeId} (hb : Bk w g t (refVals c m ⟨s.all, (k : Int) + 1, s.till, s.stopped⟩)) (hu : u = max 0 (min now 1099511627776) + min (c.base * 2 ^ k) c.cap) :
    Bk (w.setCell ⟨g, 19, none⟩ (.int .i64 u)) g t (refVals c m (refFailS c now k s)) := by
  subst hu; exact (hb.set 19 _).eq (by rfl)

def FRel (base : Int) (k : Nat) (d i : Value) : Prop := ∃ (j : Nat) (D : Int), d = .int .i64 D ∧ i = .int .i64 j ∧ InvD base k j D

set_option maxRecDepth 100000 in
set_option maxHeartbeats 4000000 in
theorem reffailed_any (c : Cfg) (s : RS) (w : World) (g m n k : Nat) (f : Int → Int) (now : Int) (hG : IsRef w g m n c f s) (hk : s.fails = k) (hk1 : k ≤ 1000000) (b0 : 0 ≤ c.base) (b1 : c.base ≤ 1073741824) (c0 : 0 ≤ c.cap) (c1 : c.cap ≤ 1073741824) :
    Calls Try.prog 19 #[.pointer (some ⟨g, 0, none⟩), .int .i64 now] w fun e w' => e = .returned (.tuple #[]) ∧ IsRef w' g m n c f (refFailS c now k s) ∧ Sm (· = g) w w' := by
  have k18 : w.cell? ⟨g, 18, none⟩ = some (.int .i64 k) := by rw [← hk]; exact hG.blk.at 18 rfl
  have z18 := hG.blk.fz 18
  have hb1 : Bk (w.setCell ⟨g, 18, none⟩ (.int .i64 ((k : Int) + 1))) g 48 (refVals c m ⟨s.all, (k : Int) + 1, s.till, s.stopped⟩) := (hG.blk.set 18 (.int .i64 ((k : Int) + 1))).eq (by rfl)
  have hs1 : Sm (fun b => b = g) w (w.setCell ⟨g, 18, none⟩ (.int .i64 ((k : Int) + 1))) := (Sm.refl _ w).set1 18 _
  have k11 : w.cell? ⟨g, 11, none⟩ = some (.int .i64 c.base) := hG.blk.at 11 rfl
  clear hk
  go_enter Try.func19, Try.ntmps19
  go_wp2
  clear k18 z18 k11
  generalize w.setCell ⟨g, 18, none⟩ (.int .i64 ((k : Int) + 1)) = w1 at *
  have k12 : w1.cell? ⟨g, 12, none⟩ = some (.int .i64 c.cap) := hb1.at 12 rfl
  have k18 : w1.cell? ⟨g, 18, none⟩ = some (.int .i64 ((k : Int) + 1)) := hb1.at 18 rfl
  have k19 : w1.cell? ⟨g, 19, none⟩ = some (.int .i64 s.till) := hb1.at 19 rfl
  have z19 := hb1.fz 19
  go_loop [4, 5] (fun d i => FRel c.base k d i) (fun _ i => k + 1 - (intOf i).toNat)
  case atStart => exact ⟨1, c.base, rfl, rfl, InvD.start k b0 b1⟩
  case round =>
    obtain ⟨j, D, rfl, rfl, hI⟩ := hrel
    have hj1 := hI.1
    have hj2 := hI.2.1
    have hD0 := hI.2.2.2.1
    have hD1 := hI.2.2.2.2
    have HI := Lib.hid hI
    clear hI
    obtain ⟨R, hR⟩ : ∃ R, min (c.base * 2 ^ k) c.cap = R := ⟨_, rfl⟩
    have HR := Lib.hid hR
    clear hR
    by_cases h1 : j < k + 1
    · by_cases h2 : D < c.cap
      · by_cases h3 : D = 0
        · have e1 : (2 * D == 0) = true := by simp [h3]
          have HF : Hid (min (2 * D) c.cap = R) := Lib.hid (by rw [← HR.out, ← HI.out.fin3 (cap := c.cap) (by omega), h3]; rfl)
          clear h3
          go_wp2
          all_goals go_end0
          all_goals refine ⟨rfl, ref_end hG (hs1.set1 _ _) (reffail_shut hb1 ?_)⟩
          all_goals (have h5 := HF.out; have h6 := HR.out; clear HF HR HI hG hb1 k12 k18 k19 z19 hs1; rw [h6]; cases c; dsimp only at *; omega)
        · have e1 : (2 * D == 0) = false := by simp; omega
          have HS := Lib.hid (HI.out.step h1 (by omega))
          go_wp2
          go_round
          case rel => exact ⟨j + 1, 2 * D, rfl, by go_num, HS.out⟩
          case measure => simp [intOf]; omega
      · have HF : Hid (min D c.cap = R) := Lib.hid (by rw [← HR.out]; exact HI.out.fin2 b0 h2)
        have e2 : decide (D < c.cap) = false := by simp; omega
        go_wp2
        all_goals go_end0
        all_goals refine ⟨rfl, ref_end hG (hs1.set1 _ _) (reffail_shut hb1 ?_)⟩
        all_goals (have h5 := HF.out; have h6 := HR.out; clear HF HR HI hG hb1 k12 k18 k19 z19 hs1; rw [h6]; cases c; dsimp only at *; omega)
    · have HF : Hid (min D c.cap = R) := Lib.hid (by rw [← HR.out]; exact HI.out.fin1 h1)
      have e2 : decide ((j : Int) < (k : Int) + 1) = false := by simp; omega
      go_wp2
      all_goals go_end0
      all_goals refine ⟨rfl, ref_end hG (hs1.set1 _ _) (reffail_shut hb1 ?_)⟩
      all_goals (have h5 := HF.out; have h6 := HR.out; clear HF HR HI hG hb1 k12 k18 k19 z19 hs1; rw [h6]; cases c; dsimp only at *; omega)

def RLeftRel (w : World) (g m n : Nat) (c : Cfg) (f : Int → Int) (s : RS) (b : Nat) (xs : List Int) (nn i : Value) (wr : World) : Prop :=
  ∃ k : Nat, k ≤ xs.length ∧ i = .int .i64 k ∧ nn = .int .i64 (left (xs.take k) f).2 ∧ IsRef wr g m (n + k) c (left (xs.take k) f).1 { s with all := s.all - (left (xs.take k) f).2 } ∧
    (∀ j, j < xs.length → wr.cell? ⟨b, j, none⟩ = some (.int .i64 (xs.getD j 0))) ∧ Sm (fun x => x = g ∨ x = m) w wr

set_option maxRecDepth 100000 in
set_option maxHeartbeats 4000000 in
theorem refleft_any (c : Cfg) (s : RS) (w : World) (g m n : Nat) (f : Int → Int) (b cap : Nat) (xs : List Int) (hG : IsRef w g m n c f s) (hn : n ≤ 1000000) (hl : xs.length ≤ 1000)
    (hc : ∀ j, j < xs.length → w.cell? ⟨b, j, none⟩ = some (.int .i64 (xs.getD j 0))) (hw : ∀ x ∈ xs, (Lit.int .i64 x).wf = true) (hbg : b ≠ g) (hbm : b ≠ m) (hf : ∀ p, f p ≤ 1000000) (ha0 : -1000000 ≤ s.all) (ha1 : s.all ≤ 1000000) :
    Calls Try.prog 20 #[.pointer (some ⟨g, 0, none⟩), .slice (some ⟨b, 0, none⟩) xs.length cap] w fun e w' => e = .returned (.int .i64 (left xs f).2) ∧
      IsRef w' g m (n + xs.length) c (left xs f).1 { s with all := s.all - (left xs f).2 } ∧ Sm (fun x => x = g ∨ x = m) w w' := by
  go_enter Try.func20, Try.ntmps20
  go_wp2
  go_loopw [5, 6] (fun nn i wr => RLeftRel w g m n c f s b xs nn i wr) (fun _ i _ => xs.length - (intOf i).toNat)
  case atStart => exact ⟨0, Nat.zero_le _, rfl, rfl, by simpa [left] using hG, hc, Sm.refl _ _⟩
  case round =>
    obtain ⟨k, hk, rfl, rfl, hG1, hc1, hs1⟩ := hrel
    clear hG hc
    by_cases hlt : k < xs.length
    · have hcell := hc1 k hlt
      have hwk := hw (xs.getD k 0) (by simp [List.getD, hlt])
      have hsn : left (xs.take (k + 1)) f = leftStep (left (xs.take k) f) (xs.getD k 0) := by rw [take_succ_getD xs k hlt, left_snoc]
      have hle := left_le (xs.take k) f 1000000 hf
      have hln := left_n (xs.take k) f
      have htk : (xs.take k).length ≤ k := List.length_take_le _ _
      have HL := Lib.hid hsn
      generalize left (xs.take k) f = L at *
      obtain ⟨lf, ln⟩ := L
      dsimp only at hG1 hle hln HL ⊢
      obtain ⟨x, hx⟩ : ∃ x, x = xs.getD k 0 := ⟨_, rfl⟩
      rw [← hx] at hcell hwk HL
      have HC := Lib.hid hc1
      have hxle := hle x
      have k16 : wr.cell? ⟨g, 16, none⟩ = some (.map (some m)) := hG1.blk.at 16 rfl
      have hlk := (hG1.map.look hwk).1
      have hlk1 := fun nq => ((hG1.map.drewN nq).look hwk).1
      have hkz : (k : Int) < (xs.length : Int) := by omega
      clear hsn hx hc1 hw hf
      by_cases hpos : 0 < lf x
      · have HS : Hid (left (xs.take (k + 1)) f = (upd lf x (lf x - 1), ln + 1)) := Lib.hid (by rw [HL.out]; exact leftStep_yes hpos)
        have HLE := Lib.hid hle
        clear hle HL
        go_wp2_with fail
        go_quiet (fail)
        go_wp2_with fail
        have hG2 := hG1.drewN nq
        have HC2 : Hid (∀ j, j < xs.length → (wr.drewN nq).cell? ⟨b, j, none⟩ = some (.int .i64 (xs.getD j 0))) := HC
        have hs2 := hs1.drewN nq
        have hcell2 : (wr.drewN nq).cell? ⟨b, k, none⟩ = some (.int .i64 x) := hcell
        have k162 : (wr.drewN nq).cell? ⟨g, 16, none⟩ = some (.map (some m)) := k16
        have hlk2 := ((hG2.map.drewN 1).look hwk).1
        clear hlk hlk1 hcell k16 HC hs1 hG1
        generalize wr.drewN nq = wr2 at *
        have hlk2 : (Instr.lookup 38 (.map (some m)) (.int .i64 x) false).run Try.prog wr2.drew = .ok (.int .i64 (lf x)) wr2.drew := hlk2
        go_still_tail 10, (by kernel_rfl)
        change wpList _ _ _ _ _ wr2.drew
        have hmd : InMap wr2.drew m (n + k) lf := hG2.map.drewN 1
        have hbd := hG2.blk.drew
        have hsd := hs2.drew
        have hwrap : IntKind.i64.wrap (lf x - 1) = lf x - 1 := IntWalk.i64_in _ (by omega)
        rw [hwrap]
        clear hwrap hlk2 hcell2 k162
        refine wpList_put_in rfl _ _ _ rfl m (n + k) lf rfl hmd (by unfold maxLen; omega) _ _ rfl rfl hwk (WalkArith.wf_i64 (by omega)) ?_
        intro w2 hm3 hg2
        have hb2 := hbd.grown hg2 (fun e => hG2.ne (by injection e))
        have k17 : w2.cell? ⟨g, 17, none⟩ = some (.int .i64 (s.all - ln)) := hb2.at 17 rfl
        have z17 := hb2.fz 17
        go_wp2
        refine ⟨⟨k + 1, by omega, by go_num, ?_, ?_, ?_, ?_⟩, by simp [intOf]; omega⟩
        · rw [HS.out]; go_num
        · rw [HS.out]
          refine ⟨(hb2.set 17 _).eq (cs' := refVals c m ⟨s.all - ln - 1, s.fails, s.till, s.stopped⟩) (by rfl) |>.eq ?_, hm3.sm ((Sm.refl (fun x => x = g) w2).set1 17 _) (fun e => hG2.ne e.symm), hG2.ne⟩
          rw [show s.all - (ln : Int) - 1 = s.all - ((ln + 1 : Nat) : Int) from by omega]
        · intro j hj
          rw [World.cell?_setCell_other _ _ _ _ (by intro e; injection e with e; exact hbg e.symm)]
          exact hg2.cell (w := wr2.drew) (HC2.out j hj) (by intro e; injection e with e; exact hbm e)
        · exact (hsd.grown hg2 (fun k e => Or.inl (Or.inr (by injection e with e; exact e.symm)))).setS (Or.inl rfl) 17 _
      · have HS : Hid (left (xs.take (k + 1)) f = (lf, ln)) := Lib.hid (by rw [HL.out]; exact leftStep_no hpos)
        clear hle HL
        go_wp2_with fail
        go_quiet (fail)
        go_wp2
        refine ⟨⟨k + 1, by omega, by go_num, ?_, ?_, HC.out, hs1.drewN nq⟩, by simp [intOf]; omega⟩
        · rw [HS.out]
        · rw [HS.out]
          exact ⟨hG1.blk.drewN nq, (hG1.map.drewN nq).more (by omega), hG1.ne⟩
    · have e : k = xs.length := by omega
      have et : xs.take k = xs := List.take_of_length_le (by omega)
      rw [et] at hG1 ⊢
      have HK := Lib.hid e
      clear e et hc1 hw hf
      go_wp2
      go_ret
      exact ⟨rfl, by rw [← HK.out]; exact hG1, hs1⟩
end Go.Proofs.Ytkgafpmblmobeaa
