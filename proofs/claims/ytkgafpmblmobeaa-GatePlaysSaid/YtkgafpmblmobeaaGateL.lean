/- Left: those who are in leave, one by one. -/
import Derived.Test.YtkgafpmblmobeaaGateI
namespace Go.Proofs.Ytkgafpmblmobeaa
open Go.RowKit Go.Proofs Go.Maps

def leftStep (x : (Int → Int) × Nat) (p : Int) : (Int → Int) × Nat := if 0 < x.1 p then (upd x.1 p (x.1 p - 1), x.2 + 1) else x
def left (l : List Int) (f : Int → Int) : (Int → Int) × Nat := l.foldl leftStep (f, 0)
theorem left_snoc (l : List Int) (p : Int) (f : Int → Int) : left (l ++ [p]) f = leftStep (left l f) p := by simp [left, List.foldl_append]
theorem leftStep_yes {x : (Int → Int) × Nat} {p : Int} (h : 0 < x.1 p) : leftStep x p = (upd x.1 p (x.1 p - 1), x.2 + 1) := if_pos h
theorem leftStep_no {x : (Int → Int) × Nat} {p : Int} (h : ¬ 0 < x.1 p) : leftStep x p = x := if_neg h
theorem leftStep_le (x : (Int → Int) × Nat) (p k B : Int) (h : x.1 k ≤ B) : (leftStep x p).1 k ≤ B := by
  unfold leftStep
  split
  · unfold upd
    dsimp only
    split
    · rename_i e; subst e; omega
    · exact h
  · exact h
theorem left_le (l : List Int) (f : Int → Int) (B : Int) (h : ∀ p, f p ≤ B) : ∀ p, (left l f).1 p ≤ B := by
  have key : ∀ (l : List Int) (x : (Int → Int) × Nat), (∀ p, x.1 p ≤ B) → ∀ p, (l.foldl leftStep x).1 p ≤ B := by
    intro l
    induction l with
    | nil => intro x hx; exact hx
    | cons q l ih => intro x hx; exact ih _ (fun p => leftStep_le x q p B (hx p))
  exact key l (f, 0) h
theorem left_n (l : List Int) (f : Int → Int) : (left l f).2 ≤ l.length := by
  have key : ∀ (l : List Int) (x : (Int → Int) × Nat), (l.foldl leftStep x).2 ≤ x.2 + l.length := by
    intro l
    induction l with
    | nil => intro x; simp
    | cons q l ih =>
      intro x
      have h1 := ih (leftStep x q)
      have h2 : (leftStep x q).2 ≤ x.2 + 1 := by unfold leftStep; split <;> simp
      simp only [List.foldl_cons, List.length_cons]
      omega
  have := key l (f, 0)
  simp only [Nat.zero_add] at this
  exact this

theorem InMap.more {w : World} {m n n' : Nat} {f : Int → Int} (h : InMap w m n f) (hn : n ≤ n') : InMap w m n' f := by
  obtain ⟨D, h1, h2⟩ := h
  exact ⟨D, h1.mono hn, h2⟩

theorem upd_same (f : Int → Int) (p q : Int) : upd f p q p = q := if_pos rfl
theorem upd_le {f : Int → Int} {B p q : Int} (h : ∀ k, f k ≤ B) (hq : q ≤ B) (k : Int) : upd f p q k ≤ B := by
  unfold upd
  split
  · exact hq
  · exact h k
theorem InMap.lt {w : World} {m n : Nat} {f : Int → Int} (h : InMap w m n f) : m < w.heap.size := by
  obtain ⟨D, h1, _⟩ := h
  exact h1.lt

def LeftRel (w : World) (g m n : Nat) (c : Cfg) (f : Int → Int) (s : GS) (b : Nat) (xs : List Int) (nn i : Value) (wr : World) : Prop :=
  ∃ k : Nat, k ≤ xs.length ∧ i = .int .i64 k ∧ nn = .int .i64 (left (xs.take k) f).2 ∧ IsGate wr g m (n + k) c (left (xs.take k) f).1 { s with all := s.all - (left (xs.take k) f).2 } ∧
    (∀ j, j < xs.length → wr.cell? ⟨b, j, none⟩ = some (.int .i64 (xs.getD j 0))) ∧ Sm (fun x => x = g ∨ x = m) w wr

set_option maxRecDepth 100000 in
set_option maxHeartbeats 4000000 in
theorem left_any (c : Cfg) (s : GS) (w : World) (g m n : Nat) (f : Int → Int) (b cap : Nat) (xs : List Int) (hG : IsGate w g m n c f s) (hn : n ≤ 1000000) (hl : xs.length ≤ 1000)
    (hc : ∀ j, j < xs.length → w.cell? ⟨b, j, none⟩ = some (.int .i64 (xs.getD j 0))) (hw : ∀ x ∈ xs, (Lit.int .i64 x).wf = true) (hbg : b ≠ g) (hbm : b ≠ m) (hf : ∀ p, f p ≤ 1000000) (ha0 : -1000000 ≤ s.all) (ha1 : s.all ≤ 1000000) :
    Calls Try.prog 16 #[.pointer (some ⟨g, 0, none⟩), .slice (some ⟨b, 0, none⟩) xs.length cap] w fun e w' => e = .returned (.int .i64 (left xs f).2) ∧
      IsGate w' g m (n + xs.length) c (left xs f).1 { s with all := s.all - (left xs f).2 } ∧ Sm (fun x => x = g ∨ x = m) w w' := by
  go_enter Try.func16, Try.ntmps16
  go_wp2
  go_loopw [5, 10] (fun nn i wr => LeftRel w g m n c f s b xs nn i wr) (fun _ i _ => xs.length - (intOf i).toNat)
  case atStart => exact ⟨0, Nat.zero_le _, rfl, rfl, by simpa [left] using hG, hc, Sm.refl _ _⟩
  case round =>
    obtain ⟨k, hk, rfl, rfl, hG1, hc1, hs1⟩ := hrel
    clear hG hc
    by_cases hlt : k < xs.length
    · have hcell := hc1 k hlt
      have hwk := hw (xs.getD k 0) (by simp [List.getD, hlt])
      have hsn : left (xs.take (k + 1)) f = leftStep (left (xs.take k) f) (xs.getD k 0) := by rw [take_succ_getD xs k hlt, left_snoc]
      have hle := left_le (xs.take k) f 1000000 hf
      have hln := left_n (xs.take k) f
      have htk : (xs.take k).length ≤ k := List.length_take_le _ _
      have HL := Lib.hid hsn
      generalize left (xs.take k) f = L at *
      obtain ⟨lf, ln⟩ := L
      dsimp only at hG1 hle hln HL ⊢
      obtain ⟨x, hx⟩ : ∃ x, x = xs.getD k 0 := ⟨_, rfl⟩
      rw [← hx] at hcell hwk HL
      have HC := Lib.hid hc1
      have hxle := hle x
      have k16 : wr.cell? ⟨g, 16, none⟩ = some (.map (some m)) := hG1.blk.at 16 rfl
      have hlk := (hG1.map.look hwk).1
      clear hsn hx hc1 hw hf
      by_cases hpos : 0 < lf x
      · have HS : Hid (left (xs.take (k + 1)) f = (upd lf x (lf x - 1), ln + 1)) := Lib.hid (by rw [HL.out]; exact leftStep_yes hpos)
        have HLE := Lib.hid hle
        clear hle HL
        go_wp2_with (at_mapUpdate; refine wpList_put_in rfl _ _ _ rfl m (n + k) lf rfl hG1.map (by unfold maxLen; omega) _ _ rfl rfl hwk (WalkArith.wf_i64 (by omega)) ?_; intro w2 hm3 hg2; clear hlk k16; have hb2 := hG1.blk.grown hg2 (fun e => hG1.ne (by injection e)); have k17 : w2.cell? ⟨g, 17, none⟩ = some (.int .i64 (s.all - ln)) := hb2.at 17 rfl; have z17 := hb2.fz 17)
        refine ⟨⟨k + 1, by omega, by go_num, ?_, ?_, ?_, ?_⟩, by simp [intOf]; omega⟩
        · rw [HS.out]; go_num
        · rw [HS.out]
          refine ⟨(hb2.set 17 _).eq (cs' := gateVals c m ⟨s.all - ln - 1, s.fails, s.delay, s.till, s.stopped⟩) (by rfl) |>.eq ?_, hm3.sm ((Sm.refl (fun x => x = g) w2).set1 17 _) (fun e => hG1.ne e.symm), hG1.ne⟩
          rw [show s.all - (ln : Int) - 1 = s.all - ((ln + 1 : Nat) : Int) from by omega]
        · intro j hj
          rw [World.cell?_setCell_other _ _ _ _ (by intro e; injection e with e; exact hbg e.symm)]
          exact hg2.cell (HC.out j hj) (by intro e; injection e with e; exact hbm e)
        · exact (hs1.grown hg2 (fun k e => Or.inl (Or.inr (by injection e with e; exact e.symm)))).setS (Or.inl rfl) 17 _
      · have HS : Hid (left (xs.take (k + 1)) f = (lf, ln)) := Lib.hid (by rw [HL.out]; exact leftStep_no hpos)
        clear hle HL
        go_wp2
        refine ⟨⟨k + 1, by omega, by go_num, ?_, ?_, HC.out, hs1⟩, by simp [intOf]; omega⟩
        · rw [HS.out]
        · rw [HS.out]
          exact ⟨hG1.blk, InMap.more hG1.map (by omega), hG1.ne⟩
    · have e : k = xs.length := by omega
      have et : xs.take k = xs := List.take_of_length_le (by omega)
      rw [et] at hG1 ⊢
      have HK := Lib.hid e
      clear e et hc1 hw hf
      go_wp2
      go_ret
      exact ⟨rfl, by rw [← HK.out]; exact hG1, hs1⟩
theorem left_none (g : Option Addr) (w : World) : Calls Try.prog 16 #[.pointer g, .slice none 0 0] w fun e w' => e = .returned (.int .i64 0) ∧ w = w' := by
  go_enter Try.func16, Try.ntmps16
  go_wp2
  refine wp_loop_rounds 1 ?_
  rw [rounds_succ]
  go_wp2
  go_ret
  exact ⟨rfl, rfl⟩
end Go.Proofs.Ytkgafpmblmobeaa
