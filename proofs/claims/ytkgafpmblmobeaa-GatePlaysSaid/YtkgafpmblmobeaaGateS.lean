/- The law of plays: what both Gates share while a script is played. -/
import Derived.Test.YtkgafpmblmobeaaGateN
import Derived.Test.YtkgafpmblmobeaaGateR
import Derived.Deep.RegionHeld3
import Derived.Deep.DeepCutAuto
import Derived.Deep.CutBlock
namespace Go.Proofs.Ytkgafpmblmobeaa
open Go.RowKit Go.Proofs Go.Maps

theorem IsGate.drew {w : World} {g m n : Nat} {c : Cfg} {f : Int → Int} {s : GS} (h : IsGate w g m n c f s) : IsGate w.drew g m n c f s := h.drewN 1
theorem IsRef.drew {w : World} {g m n : Nat} {c : Cfg} {f : Int → Int} {s : RS} (h : IsRef w g m n c f s) : IsRef w.drew g m n c f s := h.drewN 1

theorem cnt_erase {K : List Int} {p : Int} (h : 0 < cnt K p) : upd (cnt K) p (cnt K p - 1) = cnt (K.erase p) ∧ (K.erase p).length + 1 = K.length := by
  have hm : p ∈ K := by
    unfold cnt at h
    exact List.count_pos_iff.1 (by omega)
  constructor
  · funext q
    unfold upd cnt
    split
    · rename_i e; subst e; rw [List.count_erase_self]; unfold cnt at h; omega
    · rename_i e; rw [List.count_erase_of_ne e]
  · have := List.length_erase_of_mem hm
    have : 0 < K.length := List.length_pos_of_mem hm
    omega
theorem left_erase (l : List Int) (K : List Int) : ∃ K' : List Int, (left l (cnt K)).1 = cnt K' ∧ K'.length + (left l (cnt K)).2 = K.length := by
  have key : ∀ (l K : List Int) (j : Nat), ∃ K' : List Int, (l.foldl leftStep (cnt K, j)).1 = cnt K' ∧ K'.length + (l.foldl leftStep (cnt K, j)).2 = K.length + j := by
    intro l
    induction l with
    | nil => intro K j; exact ⟨K, rfl, rfl⟩
    | cons p l ih =>
      intro K j
      by_cases hp : 0 < cnt K p
      · obtain ⟨e1, e2⟩ := cnt_erase hp
        obtain ⟨K', h1, h2⟩ := ih (K.erase p) (j + 1)
        rw [List.foldl_cons, leftStep_yes hp, e1]
        dsimp only at h2 ⊢
        exact ⟨K', h1, by omega⟩
      · rw [List.foldl_cons, leftStep_no hp]
        exact ih K j
  obtain ⟨K', h1, h2⟩ := key l K 0
  exact ⟨K', h1, by simpa [left] using h2⟩

/-- The two states say the same. -/
structure Pair (c : Cfg) (K : List Int) (q : Nat) (s : GS) (r : RS) : Prop where
  all : s.all = K.length
  rall : r.all = K.length
  fails : s.fails = q
  rfails : r.fails = q
  delay : 0 < q → s.delay = min c.cap (c.base * 2 ^ (q - 1))
  d0 : 0 ≤ s.delay
  d1 : s.delay ≤ 1073741824
  till : r.till = s.till
  stop : r.stopped = s.stopped

structure CfgB (c : Cfg) : Prop where
  b0 : 0 ≤ c.base
  b1 : c.base ≤ 1048576
  c0 : 0 ≤ c.cap
  c1 : c.cap ≤ 1073741824
  m1 : 1 ≤ c.maxConns
  m2 : c.maxConns ≤ 64
theorem cfgB {c : Cfg} (h : c.ok = true) : CfgB c := by
  simp only [Cfg.ok, allW, List.all_cons, List.all_nil, Bool.and_eq_true, Bool.and_true, decide_eq_true_eq] at h
  exact ⟨by omega, by omega, by omega, by omega, by omega, by omega⟩

section
variable {c : Cfg} {K : List Int} {q : Nat} {s : GS} {r : RS}
theorem Pair.fit (h : Pair c K q s r) (hb : CfgB c) (hK : K.length ≤ 1000) (hq : q ≤ 1000) : Fit c s :=
  ⟨by rw [h.all]; omega, by rw [h.all]; omega, by rw [h.fails]; omega, by rw [h.fails]; omega, h.d0, h.d1, hb.b0, by have := hb.b1; omega, hb.c0, hb.c1⟩
theorem Pair.full (h : Pair c K q s r) : fullR c r = fullB c s := by simp [fullR, fullB, h.all, h.rall]
theorem Pair.may (h : Pair c K q s r) (now : Int) : mayR c now r = mayB c now s := by simp [mayR, mayB, h.full, h.till, h.stop]
theorem Pair.fits (h : Pair c K q s r) (f : Int → Int) (p : Int) : fitsR c f p r = fitsB c f p s := by simp [fitsR, fitsB, h.full]
theorem Pair.failD (h : Pair c K q s r) (hb : CfgB c) : failD c s = min (c.base * 2 ^ q) c.cap := by
  unfold Go.Proofs.Ytkgafpmblmobeaa.failD
  rcases Nat.eq_zero_or_pos q with e | e
  · rw [if_pos (by rw [h.fails, e]; rfl), e]; simp; omega
  · rw [if_neg (by rw [h.fails]; omega), h.delay e]
    have e2 : c.base * 2 ^ q = 2 * (c.base * 2 ^ (q - 1)) := by
      conv => lhs; rw [show q = (q - 1) + 1 from by omega, Int.pow_succ, ← Int.mul_assoc, Int.mul_comm]
    rw [e2]
    have := hb.c0
    omega
theorem Pair.failed (h : Pair c K q s r) (hb : CfgB c) (now : Int) : Pair c K (q + 1) (failS c now s) (refFailS c now q r) := by
  have e := h.failD hb
  have hnn : 0 ≤ c.base * 2 ^ q := Int.mul_nonneg hb.b0 (Int.pow_nonneg (by decide))
  have := hb.c0
  have := hb.c1
  refine ⟨h.all, h.rall, by simp [failS, h.fails], by simp [refFailS], fun _ => ?_, ?_, ?_, ?_, h.stop⟩
  · simp only [failS]; rw [e]; simp; omega
  · simp only [failS]; rw [e]; omega
  · simp only [failS]; rw [e]; omega
  · simp only [failS, refFailS]; rw [e]
theorem Pair.keep (h : Pair c K q s r) (p : Int) : Pair c (K ++ [p]) 0 { s with fails := 0, all := s.all + 1 } { r with fails := 0, all := r.all + 1 } :=
  ⟨by simp [h.all], by simp [h.rall], rfl, rfl, fun e => absurd e (by omega), h.d0, h.d1, h.till, h.stop⟩
theorem Pair.shun (h : Pair c K q s r) : Pair c K 0 { s with fails := 0 } { r with fails := 0 } :=
  ⟨h.all, h.rall, rfl, rfl, fun e => absurd e (by omega), h.d0, h.d1, h.till, h.stop⟩
theorem Pair.stops (h : Pair c K q s r) : Pair c K q { s with stopped := true } { r with stopped := true } :=
  ⟨h.all, h.rall, h.fails, h.rfails, h.delay, h.d0, h.d1, h.till, rfl⟩
theorem Pair.leave (h : Pair c K q s r) {K' : List Int} {j : Nat} (hj : K'.length + j = K.length) : Pair c K' q { s with all := s.all - j } { r with all := r.all - j } :=
  ⟨by simp [h.all]; omega, by simp [h.rall]; omega, h.fails, h.rfails, h.delay, h.d0, h.d1, h.till, h.stop⟩
end

structure Pl (w : World) (g m g2 m2 : Nat) (c : Cfg) (k : Nat) (K : List Int) (q : Nat) (s : GS) (r : RS) (wr : World) : Prop where
  len : K.length ≤ k
  fq : q ≤ k
  pair : Pair c K q s r
  gate : IsGate wr g m (2 * k) c (cnt K) s
  ref : IsRef wr g2 m2 (2 * k) c (cnt K) r
  sm : Sm No w wr

def PlRel (w : World) (g m g2 m2 : Nat) (c : Cfg) (n : Nat) (i : Value) (wr : World) : Prop :=
  ∃ (k : Nat) (K : List Int) (q : Nat) (s : GS) (r : RS), k ≤ n ∧ k ≤ 200 ∧ i = .int .i64 k ∧ Pl w g m g2 m2 c k K q s r wr

def CutR (w : World) (g m g2 m2 : Nat) (c : Cfg) (k : Nat) (ok : Value) (wr : World) : Prop :=
  ∃ (K : List Int) (q : Nat) (s : GS) (r : RS), ok = .bool true ∧ Pl w g m g2 m2 c k K q s r wr

/-- The script: its acts, three numbers each, in a row that came in. -/
def Script (w : World) (A : Option Addr) (l : List (Int × Int × Int)) : Prop :=
  ∀ k, k < l.length → ∃ bb off, A = some ⟨bb, off, none⟩ ∧ bb < w.heap.size ∧ ∃ x, l[k]? = some x ∧ w.cell? ⟨bb, off + k * 3, none⟩ = some (.int .i64 x.1) ∧ w.cell? ⟨bb, off + k * 3 + 1, none⟩ = some (.int .i64 x.2.1) ∧
    w.cell? ⟨bb, off + k * 3 + 2, none⟩ = some (.int .i64 x.2.2) ∧ (Lit.int .i64 x.1).wf = true ∧ (Lit.int .i64 x.2.1).wf = true ∧ (Lit.int .i64 x.2.2).wf = true

theorem left_two {c : Cfg} {s : GS} {w : World} {g m n j : Nat} {K K' : List Int} {b : Nat} {p q : Int} (h1 : Hid ((left [p, q] (cnt K)).1 = cnt K')) (h2 : Hid ((left [p, q] (cnt K)).2 = j)) (hG : IsGate w g m n c (cnt K) s) (hn : n ≤ 1000000) (hc0 : w.cell? ⟨b, 0, none⟩ = some (.int .i64 p)) (hc1 : w.cell? ⟨b, 1, none⟩ = some (.int .i64 q))
    (hp : (Lit.int .i64 p).wf = true) (hq : (Lit.int .i64 q).wf = true) (hbg : b ≠ g) (hbm : b ≠ m) (hK : K.length ≤ 1000) (ha0 : -1000000 ≤ s.all) (ha1 : s.all ≤ 1000000) :
    Calls Try.prog 16 #[.pointer (some ⟨g, 0, none⟩), .slice (some ⟨b, 0, none⟩) 2 2] w fun e w' => e = .returned (.int .i64 j) ∧ IsGate w' g m (n + 2) c (cnt K') { s with all := s.all - j } ∧ Sm (fun x => x = g ∨ x = m) w w' := by
  refine (left_any c s w g m n (cnt K) b 2 [p, q] hG hn (by simp) (fun j hj => ?_) (by simp [hp, hq]) hbg hbm (fun p => by have := cnt_le K p; omega) ha0 ha1).mono fun e' w' h => ?_
  · match j, hj with
    | 0, _ => exact hc0
    | 1, _ => exact hc1
    | j + 2, hj => simp at hj; omega
  · rw [h1.out, h2.out] at h; exact h
theorem refleft_two {c : Cfg} {s : RS} {w : World} {g m n j : Nat} {K K' : List Int} {b : Nat} {p q : Int} (h1 : Hid ((left [p, q] (cnt K)).1 = cnt K')) (h2 : Hid ((left [p, q] (cnt K)).2 = j)) (hG : IsRef w g m n c (cnt K) s) (hn : n ≤ 1000000) (hc0 : w.cell? ⟨b, 0, none⟩ = some (.int .i64 p)) (hc1 : w.cell? ⟨b, 1, none⟩ = some (.int .i64 q))
    (hp : (Lit.int .i64 p).wf = true) (hq : (Lit.int .i64 q).wf = true) (hbg : b ≠ g) (hbm : b ≠ m) (hK : K.length ≤ 1000) (ha0 : -1000000 ≤ s.all) (ha1 : s.all ≤ 1000000) :
    Calls Try.prog 20 #[.pointer (some ⟨g, 0, none⟩), .slice (some ⟨b, 0, none⟩) 2 2] w fun e w' => e = .returned (.int .i64 j) ∧ IsRef w' g m (n + 2) c (cnt K') { s with all := s.all - j } ∧ Sm (fun x => x = g ∨ x = m) w w' := by
  refine (refleft_any c s w g m n (cnt K) b 2 [p, q] hG hn (by simp) (fun j hj => ?_) (by simp [hp, hq]) hbg hbm (fun p => by have := cnt_le K p; omega) ha0 ha1).mono fun e' w' h => ?_
  · match j, hj with
    | 0, _ => exact hc0
    | 1, _ => exact hc1
    | j + 2, hj => simp at hj; omega
  · rw [h1.out, h2.out] at h; exact h
theorem refmay_say {c : Cfg} {s : RS} {now : Int} {r : Bool} (hr : Hid (mayR c now s = r)) (w : World) (g m : Nat) (hb : Bk w g 48 (refVals c m s)) :
    Calls Try.prog 23 #[.pointer (some ⟨g, 0, none⟩), .int .i64 now] w fun e w' => e = .returned (.bool r) ∧ ∃ n, w' = w.drewN n := by
  rw [← hr.out]; exact refmay_any c s w g m now hb
theorem took_not_v {c : Cfg} {s : GS} {w : World} {g m n : Nat} {f : Int → Int} {p v : Int} (hv : Hid ((if c.refuse then (2 : Int) else 3) = v)) (hG : IsGate w g m n c f s) (hp : (Lit.int .i64 p).wf = true) (hfit : fitsB c f p s = false) :
    Calls Try.prog 14 #[.pointer (some ⟨g, 0, none⟩), .int .i64 p] w fun e w' => e = .returned (.int .i64 v) ∧
      IsGate w' g m n c f { s with fails := 0 } ∧ Sm (fun b => b = g ∨ b = m) w w' := by
  rw [← hv.out]; exact took_not c s w g m n f p hG hp hfit
theorem reftook_not_v {c : Cfg} {s : RS} {w : World} {g m n : Nat} {f : Int → Int} {p v : Int} (hv : Hid ((if c.refuse then (2 : Int) else 3) = v)) (hG : IsRef w g m n c f s) (hp : (Lit.int .i64 p).wf = true) (hfit : fitsR c f p s = false) :
    Calls Try.prog 18 #[.pointer (some ⟨g, 0, none⟩), .int .i64 p] w fun e w' => e = .returned (.int .i64 v) ∧
      IsRef w' g m n c f { s with fails := 0 } ∧ Sm (fun b => b = g ∨ b = m) w w' := by
  rw [← hv.out]; exact reftook_not c s w g m n f p hG hp hfit

set_option maxRecDepth 100000 in
set_option maxHeartbeats 8000000 in
theorem plays_in (c : Cfg) (hc : c.ok = true) (A : Option Addr) (l : List (Int × Int × Int)) (cap : Nat) (w : World) (hlen : l.length ≤ 9223372036854775807) (hA : Script w A l) :
    Calls Try.prog 5 #[.agg c.vals, .slice A l.length cap] w fun e w' => e = .returned (.bool true) ∧ Sm No w w' := by
  have Hc := Lib.hid hc
  have HA := Lib.hid hA
  have HB := Lib.hid (cfgB hc)
  clear hc hA
  unfold Cfg.vals
  go_enter Try.func5, Try.ntmps5
  go_wp2_with (refine wpList_load_bk rfl 25 _ rfl Try.underlying25 16 infoCfg _ rfl _ (Bk.new _ _ _) rfl ?_)
  refine (new_ok c _ Hc.out).mono ?_
  rintro e w1 ⟨g, m, hg, hm, rfl, hG, hs1⟩
  have hb1 := (Bk.new w 25 c.vals).sm hs1 (fun h => h.elim)
  unfold Cfg.vals at hb1
  go_wp2_with (refine wpList_load_bk rfl 25 _ rfl Try.underlying25 16 infoCfg _ rfl _ hb1 rfl ?_)
  refine (refnew_ok c _ Hc.out).mono ?_
  rintro e w2 ⟨g2, m2, hg2, hm2, rfl, hR, hs2⟩
  have hG1 := hG.sm hs2 (fun h => h) (fun h => h)
  go_wp2_with fail
  have hs3 : Sm No w w2 := (((Sm.refl No w).alloc _).trans hs1 (fun _ _ h => h)).trans hs2 (fun _ _ h => h)
  have hgl := hG.blk.lt
  have hml := hG.map.lt
  have hg0 : w.heap.size ≤ g := Nat.le_trans (by simp) hg
  have hm0 : w.heap.size ≤ m := Nat.le_trans (by simp) hm
  have hg20 : w.heap.size ≤ g2 := by omega
  have hm20 : w.heap.size ≤ m2 := by omega
  have n1 : g ≠ g2 := by omega
  have n2 : g ≠ m2 := by omega
  have n3 : m ≠ g2 := by omega
  have n4 : m ≠ m2 := by omega
  have hP0 : Pl w g m g2 m2 c 0 [] 0 ⟨0, 0, 0, 0, false⟩ ⟨0, 0, 0, false⟩ w2 := ⟨by simp, by omega, ⟨rfl, rfl, rfl, rfl, fun h => absurd h (by omega), Int.le_refl _, by decide, rfl, rfl⟩, by rw [cnt_nil]; exact hG1, by rw [cnt_nil]; exact hR, hs3⟩
  have HP0 := Lib.hid hP0
  clear hs1 hs2 hs3 hg hm hg2 hm2 hG hR hG1 hgl hml hb1 hP0 Hc
  go_loopw [9] (fun i wr => PlRel w g m g2 m2 c l.length i wr) (fun i _ => l.length - (intOf i).toNat)
  case atStart => exact ⟨0, _, _, _, _, by omega, by omega, rfl, HP0.out⟩
  case round =>
    obtain ⟨k, K, q, s, r, hk, hk2, rfl, hP⟩ := hrel
    clear HP0
    have hK := hP.len
    have hq := hP.fq
    have HP := Lib.hid hP
    clear hP
    by_cases hlt : k < l.length ∧ k < 200
    · obtain ⟨hlt1, hlt2⟩ := hlt
      obtain ⟨bb, off, rfl, hbb, ⟨kd, p, nn⟩, hx, hc0, hc1, hc2, hw0, hw1, hw2⟩ := HA.out k hlt1
      dsimp only at hc0 hc1 hc2 hw0 hw1 hw2
      clear hx
      have e0 := HP.out.sm.cell hbb hc0
      have e1 := HP.out.sm.cell hbb hc1
      have e2 := HP.out.sm.cell hbb hc2
      have hd2 : decide ((k : Int) < 200) = true := by simp; omega
      have hB := HB.out
      go_upto_block 2 with fail
      go_cut [10] (fun ok wx => CutR w g m g2 m2 c (k + 1) ok wx)
      case first =>
        have hcnt := cnt_le K p
        by_cases h1 : kd = 1
        · have H1 : (kd == 1) = true := by simp [h1]
          clear h1
          obtain ⟨fi, hfi⟩ : ∃ fi, fitsB c (cnt K) p s = fi := ⟨_, rfl⟩
          have HFR : Hid (fitsR c (cnt K) p r = fi) := Lib.hid (by rw [HP.out.pair.fits]; exact hfi)
          have HFI := Lib.hid hfi
          clear hfi
          go_wp2_with fail
          cases fi
          · as_aux_lemma =>
              obtain ⟨v, hv⟩ : ∃ v, (if c.refuse then (2 : Int) else 3) = v := ⟨_, rfl⟩
              have HV := Lib.hid hv
              clear hv
              go_region_held3 (fun w' => w'.cell? ⟨bb, off + k * 3 + 1, none⟩ = some (.int .i64 p)) (first | exact e1 | exact h5)
                (first
                  | (go_at_call 14; refine (took_not_v HV HP.out.gate.drew hw1 HFI.out).mono ?_; rintro e w4 ⟨rfl, hG4, hs4⟩; have hs5 : Sm No w w4 := HP.out.sm.drew.trans hs4 (fun b hb h => by rcases h with h | h <;> subst h <;> omega); have h5 := hs5.cell hbb hc1; have hR4 := HP.out.ref.drew.sm hs4 (by omega) (by omega))
                  | (go_at_call 18; refine (reftook_not_v HV hR4 hw1 HFR.out).mono ?_; rintro e w6 ⟨rfl, hR6, hs6⟩; have hs7 : Sm No w w6 := hs5.trans hs6 (fun b hb h => by rcases h with h | h <;> subst h <;> omega); have h5 := hs7.cell hbb hc1; have hG6 := hG4.sm hs6 (by omega) (by omega)))
              go_wp2_with fail
              go_meet
              exact ⟨K, 0, _, _, rfl, by omega, by omega, HP.out.pair.shun, ⟨hG6.blk, hG6.map.more (by omega), hG6.ne⟩, ⟨hR6.blk, hR6.map.more (by omega), hR6.ne⟩, hs7⟩
          · as_aux_lemma =>
              go_region_held3 (fun w' => w'.cell? ⟨bb, off + k * 3 + 1, none⟩ = some (.int .i64 p)) (first | exact e1 | exact h5)
                (first
                  | (go_at_call 14; refine (took_keep c s _ g m (2 * k) (cnt K) p HP.out.gate.drew hw1 (by omega) (by omega) (by omega) (by rw [HP.out.pair.all]; omega) (by rw [HP.out.pair.all]; omega) HFI.out).mono ?_; rintro e w4 ⟨rfl, hG4, hs4⟩; have hs5 : Sm No w w4 := HP.out.sm.drew.trans hs4 (fun b hb h => by rcases h with h | h <;> subst h <;> omega); have h5 := hs5.cell hbb hc1; have hR4 := HP.out.ref.drew.sm hs4 (by omega) (by omega))
                  | (go_at_call 18; refine (reftook_keep c r _ g2 m2 (2 * k) (cnt K) p hR4 hw1 (by omega) (by omega) (by omega) (by rw [HP.out.pair.rall]; omega) (by rw [HP.out.pair.rall]; omega) HFR.out).mono ?_; rintro e w6 ⟨rfl, hR6, hs6⟩; have hs7 : Sm No w w6 := hs5.trans hs6 (fun b hb h => by rcases h with h | h <;> subst h <;> omega); have h5 := hs7.cell hbb hc1; have hG6 := hG4.sm hs6 (by omega) (by omega)))
              go_wp2_with fail
              go_meet
              rw [cnt_snoc] at hG6 hR6
              exact ⟨K ++ [p], 0, _, _, rfl, by simp; omega, by omega, HP.out.pair.keep p, ⟨hG6.blk, hG6.map.more (by omega), hG6.ne⟩, ⟨hR6.blk, hR6.map.more (by omega), hR6.ne⟩, hs7⟩
        · have H1 : (kd == 1) = false := by simp [h1]
          clear h1
          by_cases h2 : kd = 2
          · as_aux_lemma =>
              have H2 : (kd == 2) = true := by simp [h2]
              clear h2
              have HFit := Lib.hid (HP.out.pair.fit hB (by omega) (by omega))
              have HRF := Lib.hid HP.out.pair.rfails
              have hb0 := hB.b0
              have hb1 := hB.b1
              have hc01 := hB.c0
              have hc11 := hB.c1
              go_wp2_with fail
              refine (failed_any c s _ g m (2 * k) (cnt K) nn HP.out.gate HFit.out).mono ?_
              rintro e w4 ⟨rfl, hG4, hs4⟩
              have hs5 : Sm No w w4 := HP.out.sm.trans hs4 (fun b hb h => by subst h; omega)
              have hR4 := HP.out.ref.sm hs4 (by omega) (by omega)
              have h5 := hs5.cell hbb hc2
              go_wp2_with fail
              refine (reffailed_any c r _ g2 m2 (2 * k) q (cnt K) nn hR4 HRF.out (by omega) (by omega) (by omega) (by omega) (by omega)).mono ?_
              rintro e w6 ⟨rfl, hR6, hs6⟩
              have hs7 : Sm No w w6 := hs5.trans hs6 (fun b hb h => by subst h; omega)
              have hG6 := hG4.sm hs6 (by omega) (by omega)
              go_wp2_with fail
              go_meet
              exact ⟨K, q + 1, _, _, rfl, by omega, by omega, HP.out.pair.failed hB nn, ⟨hG6.blk, hG6.map.more (by omega), hG6.ne⟩, ⟨hR6.blk, hR6.map.more (by omega), hR6.ne⟩, hs7⟩
          · have H2 : (kd == 2) = false := by simp [h2]
            clear h2
            by_cases h3 : kd = 3
            · as_aux_lemma =>
                have H3 : (kd == 3) = true := by simp [h3]
                clear h3
                obtain ⟨K', hK1, hK2⟩ := left_erase [p, nn] K
                have HK1 := Lib.hid hK1
                obtain ⟨j, hj⟩ : ∃ j, (left [p, nn] (cnt K)).2 = j := ⟨_, rfl⟩
                rw [hj] at hK2
                have HJ := Lib.hid hj
                have HK2 := Lib.hid hK2
                clear hK1 hK2 hj
                have hgl := HP.out.gate.blk.lt
                have hml := HP.out.gate.map.lt
                have hgl2 := HP.out.ref.blk.lt
                have hml2 := HP.out.ref.map.lt
                have hn2 : 2 * k ≤ 1000000 := by omega
                have hK3 : K.length ≤ 1000 := by omega
                have ha0 : -1000000 ≤ s.all := by rw [HP.out.pair.all]; omega
                have ha1 : s.all ≤ 1000000 := by rw [HP.out.pair.all]; omega
                have hb0 : -1000000 ≤ r.all := by rw [HP.out.pair.rall]; omega
                have hb1 : r.all ≤ 1000000 := by rw [HP.out.pair.rall]; omega
                have x1 : wr.heap.size ≠ g := by omega
                have x2 : wr.heap.size ≠ m := by omega
                have x3 : wr.heap.size + 1 ≠ g := by omega
                have x4 : wr.heap.size + 1 ≠ m := by omega
                have x5 : wr.heap.size ≠ g2 := by omega
                have x6 : wr.heap.size ≠ m2 := by omega
                have x7 : wr.heap.size + 1 ≠ g2 := by omega
                have x8 : wr.heap.size + 1 ≠ m2 := by omega
                have hbk1 : Bk ((wr.alloc (.cells #[.int .i64 p, .int .i64 nn] 3)).drew) wr.heap.size 3 #[.int .i64 p, .int .i64 nn] := (Bk.new wr _ _).drew
                have hbk : Bk (((wr.alloc (.cells #[.int .i64 p, .int .i64 nn] 3)).alloc (.cells #[.int .i64 p, .int .i64 nn] 3)).drew) wr.heap.size 3 #[.int .i64 p, .int .i64 nn] := ((Bk.new wr _ _).alloc _).drew
                have hbk2 : Bk (((wr.alloc (.cells #[.int .i64 p, .int .i64 nn] 3)).alloc (.cells #[.int .i64 p, .int .i64 nn] 3)).drew) (wr.heap.size + 1) 3 #[.int .i64 p, .int .i64 nn] := (Bk.newAt _ _ _ (by simp)).drew
                have a10 : ((wr.alloc (.cells #[.int .i64 p, .int .i64 nn] 3)).drew).cell? ⟨wr.heap.size, 0, none⟩ = some (.int .i64 p) := hbk1.at 0 rfl
                have a11 : ((wr.alloc (.cells #[.int .i64 p, .int .i64 nn] 3)).drew).cell? ⟨wr.heap.size, 1, none⟩ = some (.int .i64 nn) := hbk1.at 1 rfl
                have a20 : (((wr.alloc (.cells #[.int .i64 p, .int .i64 nn] 3)).alloc (.cells #[.int .i64 p, .int .i64 nn] 3)).drew).cell? ⟨wr.heap.size, 0, none⟩ = some (.int .i64 p) := hbk.at 0 rfl
                have a21 : (((wr.alloc (.cells #[.int .i64 p, .int .i64 nn] 3)).alloc (.cells #[.int .i64 p, .int .i64 nn] 3)).drew).cell? ⟨wr.heap.size, 1, none⟩ = some (.int .i64 nn) := hbk.at 1 rfl
                have a30 : (((wr.alloc (.cells #[.int .i64 p, .int .i64 nn] 3)).alloc (.cells #[.int .i64 p, .int .i64 nn] 3)).drew).cell? ⟨wr.heap.size + 1, 0, none⟩ = some (.int .i64 p) := hbk2.at 0 rfl
                have a31 : (((wr.alloc (.cells #[.int .i64 p, .int .i64 nn] 3)).alloc (.cells #[.int .i64 p, .int .i64 nn] 3)).drew).cell? ⟨wr.heap.size + 1, 1, none⟩ = some (.int .i64 nn) := hbk2.at 1 rfl
                have g1 : IsGate ((wr.alloc (.cells #[.int .i64 p, .int .i64 nn] 3)).drew) g m (2 * k) c (cnt K) s := (HP.out.gate.alloc _).drew
                have g2' : IsGate (((wr.alloc (.cells #[.int .i64 p, .int .i64 nn] 3)).alloc (.cells #[.int .i64 p, .int .i64 nn] 3)).drew) g m (2 * k) c (cnt K) s := ((HP.out.gate.alloc _).alloc _).drew
                have r1 : IsRef ((wr.alloc (.cells #[.int .i64 p, .int .i64 nn] 3)).drew) g2 m2 (2 * k) c (cnt K) r := (HP.out.ref.alloc _).drew
                have r2 : IsRef (((wr.alloc (.cells #[.int .i64 p, .int .i64 nn] 3)).alloc (.cells #[.int .i64 p, .int .i64 nn] 3)).drew) g2 m2 (2 * k) c (cnt K) r := ((HP.out.ref.alloc _).alloc _).drew
                have s1 : Sm No w ((wr.alloc (.cells #[.int .i64 p, .int .i64 nn] 3)).drew) := (HP.out.sm.alloc _).drew
                have s2 : Sm No w (((wr.alloc (.cells #[.int .i64 p, .int .i64 nn] 3)).alloc (.cells #[.int .i64 p, .int .i64 nn] 3)).drew) := ((HP.out.sm.alloc _).alloc _).drew
                have y1 : ((wr.alloc (.cells #[.int .i64 p, .int .i64 nn] 3)).drew).cell? ⟨bb, off + k * 3 + 1, none⟩ = some (.int .i64 p) := s1.cell hbb hc1
                have y2 : ((wr.alloc (.cells #[.int .i64 p, .int .i64 nn] 3)).drew).cell? ⟨bb, off + k * 3 + 2, none⟩ = some (.int .i64 nn) := s1.cell hbb hc2
                have y3 : (((wr.alloc (.cells #[.int .i64 p, .int .i64 nn] 3)).alloc (.cells #[.int .i64 p, .int .i64 nn] 3)).drew).cell? ⟨bb, off + k * 3 + 1, none⟩ = some (.int .i64 p) := s2.cell hbb hc1
                have y4 : (((wr.alloc (.cells #[.int .i64 p, .int .i64 nn] 3)).alloc (.cells #[.int .i64 p, .int .i64 nn] 3)).drew).cell? ⟨bb, off + k * 3 + 2, none⟩ = some (.int .i64 nn) := s2.cell hbb hc2
                have HX := Lib.hid (And.intro a10 (And.intro a11 (And.intro a20 (And.intro a21 (And.intro a30 (And.intro a31 (And.intro y1 (And.intro y2 (And.intro y3 y4)))))))))
                clear a10 a11 a20 a21 a30 a31 y1 y2 y3 y4
                go_wp2_with fail
                go_region_held3 (fun w' => w'.cell? ⟨bb, off + k * 3 + 1, none⟩ = some (.int .i64 p) ∧ w'.cell? ⟨bb, off + k * 3 + 2, none⟩ = some (.int .i64 nn)) (first | exact ⟨e1, e2⟩ | exact ⟨h5, h6⟩ | exact ⟨HX.out.2.2.2.2.2.2.1, HX.out.2.2.2.2.2.2.2.1⟩ | exact ⟨HX.out.2.2.2.2.2.2.2.2.1, HX.out.2.2.2.2.2.2.2.2.2⟩ | exact ⟨hs55.cell hbb hc1, hs55.cell hbb hc2⟩)
                  (first
                    | (go_at_call 16; (with_reducible refine (left_two HK1 HJ g1 hn2 HX.out.1 HX.out.2.1 hw1 hw2 x1 x2 hK3 ha0 ha1).mono ?_); rintro e w4 ⟨rfl, hG4, hs4⟩; have hs5 : Sm No w w4 := s1.trans hs4 (fun b hb h => by rcases h with h | h <;> subst h <;> omega); have h5 := hs5.cell hbb hc1; have h6 := hs5.cell hbb hc2; have hR4 := r1.sm hs4 (by omega) (by omega); have z1 := (Sm.refl No w4).alloc (.cells #[.int .i64 p, .int .i64 nn] 3); have hR5 := hR4.alloc (.cells #[.int .i64 p, .int .i64 nn] 3); have hG5 := hG4.alloc (.cells #[.int .i64 p, .int .i64 nn] 3); have hs55 := hs5.alloc (.cells #[.int .i64 p, .int .i64 nn] 3); have x9 : w4.heap.size ≠ g2 := Nat.ne_of_gt hR4.blk.lt; have x10 : w4.heap.size ≠ m2 := Nat.ne_of_gt hR4.map.lt; have HY := Lib.hid (And.intro ((Bk.new w4 3 #[.int .i64 p, .int .i64 nn]).at 0 (v := .int .i64 p) rfl) ((Bk.new w4 3 #[.int .i64 p, .int .i64 nn]).at 1 (v := .int .i64 nn) rfl)))
                    | (go_at_call 16; (with_reducible refine (left_two HK1 HJ g2' hn2 HX.out.2.2.1 HX.out.2.2.2.1 hw1 hw2 x1 x2 hK3 ha0 ha1).mono ?_); rintro e w4 ⟨rfl, hG4, hs4⟩; have hs5 : Sm No w w4 := s2.trans hs4 (fun b hb h => by rcases h with h | h <;> subst h <;> omega); have h5 := hs5.cell hbb hc1; have h6 := hs5.cell hbb hc2; have hR4 := r2.sm hs4 (by omega) (by omega); have hbk4 := hbk2.sm hs4 (by omega); have HY := Lib.hid (And.intro (hbk4.at 0 (v := .int .i64 p) rfl) (hbk4.at 1 (v := .int .i64 nn) rfl)))
                    | (go_at_call 16; (with_reducible refine (left_two HK1 HJ g2' hn2 HX.out.2.2.2.2.1 HX.out.2.2.2.2.2.1 hw1 hw2 x3 x4 hK3 ha0 ha1).mono ?_); rintro e w4 ⟨rfl, hG4, hs4⟩; have hs5 : Sm No w w4 := s2.trans hs4 (fun b hb h => by rcases h with h | h <;> subst h <;> omega); have h5 := hs5.cell hbb hc1; have h6 := hs5.cell hbb hc2; have hR4 := r2.sm hs4 (by omega) (by omega); have hbk4 := hbk.sm hs4 (by omega); have HY := Lib.hid (And.intro (hbk4.at 0 (v := .int .i64 p) rfl) (hbk4.at 1 (v := .int .i64 nn) rfl)))
                    | (go_at_call 20; (with_reducible refine (refleft_two HK1 HJ hR5 hn2 HY.out.1 HY.out.2 hw1 hw2 x9 x10 hK3 hb0 hb1).mono ?_); rintro e w6 ⟨rfl, hR6, hs6⟩; have hs7 : Sm No w w6 := hs55.trans hs6 (fun b hb h => by rcases h with h | h <;> subst h <;> omega); have h5 := hs7.cell hbb hc1; have h6 := hs7.cell hbb hc2; have hG6 := hG5.sm hs6 (by omega) (by omega))
                    | (go_at_call 20; (with_reducible refine (refleft_two HK1 HJ hR4 hn2 HY.out.1 HY.out.2 hw1 hw2 x7 x8 hK3 hb0 hb1).mono ?_); rintro e w6 ⟨rfl, hR6, hs6⟩; have hs7 : Sm No w w6 := hs5.trans hs6 (fun b hb h => by rcases h with h | h <;> subst h <;> omega); have h5 := hs7.cell hbb hc1; have h6 := hs7.cell hbb hc2; have hG6 := hG4.sm hs6 (by omega) (by omega))
                    | (go_at_call 20; (with_reducible refine (refleft_two HK1 HJ hR4 hn2 HY.out.1 HY.out.2 hw1 hw2 x5 x6 hK3 hb0 hb1).mono ?_); rintro e w6 ⟨rfl, hR6, hs6⟩; have hs7 : Sm No w w6 := hs5.trans hs6 (fun b hb h => by rcases h with h | h <;> subst h <;> omega); have h5 := hs7.cell hbb hc1; have h6 := hs7.cell hbb hc2; have hG6 := hG4.sm hs6 (by omega) (by omega)))
                all_goals go_wp2_with fail
                all_goals go_meet
                all_goals exact ⟨K', q, _, _, rfl, by have := HK2.out; omega, by omega, HP.out.pair.leave HK2.out, ⟨hG6.blk, hG6.map.more (by omega), hG6.ne⟩, ⟨hR6.blk, hR6.map.more (by omega), hR6.ne⟩, hs7⟩
            · have H3 : (kd == 3) = false := by simp [h3]
              clear h3
              by_cases h4 : kd = 4
              · as_aux_lemma =>
                  have H4 : (kd == 4) = true := by simp [h4]
                  clear h4
                  go_wp2_with fail
                  refine (stop_any c s _ g m (2 * k) (cnt K) HP.out.gate).mono ?_
                  rintro e w4 ⟨rfl, hG4, hs4⟩
                  have hs5 : Sm No w w4 := HP.out.sm.trans hs4 (fun b hb h => by subst h; omega)
                  have hR4 := HP.out.ref.sm hs4 (by omega) (by omega)
                  have c20 : w4.cell? ⟨g2, 20, none⟩ = some (.bool r.stopped) := hR4.blk.at 20 rfl
                  have z20 := hR4.blk.fz 20
                  go_wp2_with fail
                  go_meet
                  have hs6 := (Sm.refl (fun x => x = g2) w4).set1 20 (.bool true)
                  have hs7 : Sm No w (w4.setCell ⟨g2, 20, none⟩ (.bool true)) := hs5.trans hs6 (fun b hb h => by subst h; omega)
                  have hG6 := hG4.sm hs6 (by omega) (by omega)
                  have hR6 : IsRef (w4.setCell ⟨g2, 20, none⟩ (.bool true)) g2 m2 (2 * k) c (cnt K) { r with stopped := true } := (ref_end hR4 hs6 ((hR4.blk.set 20 _).eq (by rfl))).1
                  exact ⟨K, q, _, _, rfl, by omega, by omega, HP.out.pair.stops, ⟨hG6.blk, hG6.map.more (by omega), hG6.ne⟩, ⟨hR6.blk, hR6.map.more (by omega), hR6.ne⟩, hs7⟩
              · as_aux_lemma =>
                  have H4 : (kd == 4) = false := by simp [h4]
                  clear h4
                  go_wp2_with fail
                  go_meet
                  exact ⟨K, q, _, _, rfl, by omega, by omega, HP.out.pair, ⟨HP.out.gate.blk, HP.out.gate.map.more (by omega), HP.out.gate.ne⟩, ⟨HP.out.ref.blk, HP.out.ref.map.more (by omega), HP.out.ref.ne⟩, HP.out.sm⟩
      case rest =>
        as_aux_lemma =>
          obtain ⟨K', q', s', r', rfl, hP'⟩ := hcut
          clear e0 e1 e2
          have HP' := Lib.hid hP'
          clear hP' HP
          have e1 := HP'.out.sm.cell hbb hc1
          go_wp2_with fail
          refine (count_any c s' _ g m _ (cnt K') p HP'.out.gate hw1).mono ?_
          rintro e wd ⟨rfl, n5, rfl⟩
          have hG7 := HP'.out.gate.drewN n5
          have hR7 := HP'.out.ref.drewN n5
          have hs7 := HP'.out.sm.drewN n5
          clear e1
          generalize wc.drewN n5 = wd at *
          have e1 := hs7.cell hbb hc1
          have e2 := hs7.cell hbb hc2
          obtain ⟨fu, hfu⟩ : ∃ fu, fullB c s' = fu := ⟨_, rfl⟩
          obtain ⟨m1, hm1⟩ : ∃ m1, mayB c nn s' = m1 := ⟨_, rfl⟩
          obtain ⟨m3, hm3⟩ : ∃ m3, mayB c s'.till s' = m3 := ⟨_, rfl⟩
          have hfu' := HP'.out.pair.full.trans hfu
          have hm1' := (HP'.out.pair.may nn).trans hm1
          have hm3' := (HP'.out.pair.may s'.till).trans hm3
          have c16 : wd.cell? ⟨g2, 16, none⟩ = some (.map (some m2)) := hR7.blk.at 16 rfl
          have c17 : wd.cell? ⟨g2, 17, none⟩ = some (.int .i64 s'.all) := by rw [HP'.out.pair.all, ← HP'.out.pair.rall]; exact hR7.blk.at 17 rfl
          have c19 : wd.cell? ⟨g2, 19, none⟩ = some (.int .i64 s'.till) := by rw [← HP'.out.pair.till]; exact hR7.blk.at 19 rfl
          have hl1 := fun nq => ((hR7.map.drewN nq).look hw1).1
          have A1 := Lib.hid hfu
          have A2 := Lib.hid hfu'
          have A3 := Lib.hid hm1
          have A4 := Lib.hid hm1'
          have A5 := Lib.hid hm3
          have A6 := Lib.hid hm3'
          clear hfu hfu' hm1 hm1' hm3 hm3'
          go_wp2_with fail
          go_quiet ((first
            | (go_at_call 15; exact Calls.quiet_of (full_say A1 _ g m (hG7.blk.drewN _)))
            | (go_at_call 22; exact Calls.quiet_of (reffull_say A2 _ g2 m2 (hR7.blk.drewN _)))
            | (go_at_call_of 13 (Value.int .i64 nn); exact Calls.quiet_of (may_say A3 _ g m (hG7.blk.drewN _)))
            | (go_at_call_of 23 (Value.int .i64 nn); exact Calls.quiet_of (refmay_say A4 _ g2 m2 (hR7.blk.drewN _)))
            | (go_at_call 13; exact Calls.quiet_of (may_say A5 _ g m (hG7.blk.drewN _)))
            | (go_at_call 23; exact Calls.quiet_of (refmay_say A6 _ g2 m2 (hR7.blk.drewN _)))))
          go_wp2
          exact ⟨⟨k + 1, K', q', s', r', by omega, by omega, by go_num, HP'.out.len, HP'.out.fq, HP'.out.pair, hG7.drewN _, hR7.drewN _, hs7.drewN _⟩, by simp [intOf]; omega⟩
    · as_aux_lemma =>
        have hdone : k = 200 ∨ ¬ k < l.length := by omega
        by_cases h200 : k = 200
        case' pos => have hd2 : decide ((k : Int) < 200) = false := by simp; omega
        case' pos => have hk3 := Nat.le_of_eq h200
        case' pos => have hk4 := Nat.le_of_eq h200.symm
        case' pos => clear h200
        case' neg => have hd3 : ¬ k < l.length := by omega
        all_goals
          clear hlt hdone
          go_wp2_with fail
          all_goals
            refine (known_any _).mono ?_
            rintro e w' ⟨rfl, hs⟩
            go_wp2_with fail
            go_ret
            exact ⟨rfl, HP.out.sm.trans hs (fun _ _ h => h)⟩
end Go.Proofs.Ytkgafpmblmobeaa
