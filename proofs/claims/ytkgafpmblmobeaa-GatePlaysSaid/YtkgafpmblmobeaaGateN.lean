/- The law of bounds: its body. -/
import Derived.Test.YtkgafpmblmobeaaGateJ
import Derived.Test.YtkgafpmblmobeaaGateL
import Derived.Test.YtkgafpmblmobeaaInts
import Derived.Test.YtkgafpmblmobeaaRow
namespace Go.Proofs.Ytkgafpmblmobeaa
open Go.RowKit Go.Proofs Go.Maps

def cnt (K : List Int) : Int → Int := fun p => (K.count p : Int)
theorem cnt_nil : cnt [] = fun _ => 0 := by funext p; simp [cnt]
theorem cnt_snoc (K : List Int) (p : Int) : upd (cnt K) p (cnt K p + 1) = cnt (K ++ [p]) := by
  funext q
  unfold upd cnt
  split
  · rename_i e; subst e; simp [List.count_append]
  · rename_i e; rw [List.count_append, List.count_singleton]; simp [show ¬ (p = q) from fun h => e h.symm]
theorem cnt_le (K : List Int) (p : Int) : 0 ≤ cnt K p ∧ cnt K p ≤ K.length := by
  unfold cnt; have := List.count_le_length (a := p) (l := K); omega
theorem left_cnt : ∀ K : List Int, left K (cnt K) = (fun _ => 0, K.length) := by
  have key : ∀ (K : List Int) (n : Nat), K.foldl leftStep (cnt K, n) = (fun _ => 0, n + K.length) := by
    intro K
    induction K with
    | nil => intro n; simp [cnt_nil]
    | cons p K ih =>
      intro n
      have h1 : 0 < cnt (p :: K) p := by unfold cnt; simp
      have h2 : upd (cnt (p :: K)) p (cnt (p :: K) p - 1) = cnt K := by
        funext q
        unfold upd cnt
        split
        · rename_i e; subst e; simp
        · rename_i e; rw [List.count_cons]; simp [show ¬ (p = q) from fun h => e h.symm]
      rw [List.foldl_cons, leftStep_yes h1, h2, ih]
      simp; omega
  intro K
  have := key K 0
  simp only [Nat.zero_add] at this
  exact this
theorem left_zero (K : List Int) : left K (fun _ => 0) = (fun _ => 0, 0) := by
  have key : ∀ K : List Int, K.foldl leftStep (fun _ => 0, 0) = (fun _ => 0, 0) := by
    intro K
    induction K with
    | nil => rfl
    | cons p K ih => rw [List.foldl_cons, leftStep_no (by simp), ih]
  exact key K

def boundsC (conns each : Int) : Cfg := ⟨conns, each, 1, 0, 1, 1, 1, 1, 1, 0, 0, 3, 10, false, false, none, 0, 0⟩
theorem boundsC_ok (a b : Int) (h0 : 1 ≤ a) (h1 : a ≤ 64) (h2 : 1 ≤ b) (h3 : b ≤ 64) : (boundsC a b).ok = true := by
  simp [Cfg.ok, boundsC, allW]; omega

theorem full_is (n : Nat) (a : Int) {b : Int} (fu : Bool) (h : (n : Int) + 1 ≤ a) (hf : ((n : Int) + 1 == a) = fu) : fullB (boundsC a b) ⟨n + 1, 0, 0, 0, false⟩ = fu := by
  rw [← hf]
  by_cases e : (n : Int) + 1 = a
  · simp [fullB, boundsC, e]
  · have : ¬ (a ≤ (n : Int) + 1) := by omega
    simp [fullB, boundsC, e, this]
theorem full_is' (n : Nat) (a : Int) {b : Int} (fu : Bool) (h : (n : Int) ≤ a) (hf : ((n : Int) == a) = fu) : fullB (boundsC a b) ⟨n, 0, 0, 0, false⟩ = fu := by
  rw [← hf]
  by_cases e : (n : Int) = a
  · simp [fullB, boundsC, e]
  · have : ¬ (a ≤ (n : Int)) := by omega
    simp [fullB, boundsC, e, this]

structure Bd (w : World) (g m mi B : Nat) (a b : Int) (K : List Int) (k : Nat) (v : Value) (wr : World) : Prop where
  len : K.length ≤ k
  top : (K.length : Int) ≤ a
  gate : IsGate wr g m k (boundsC a b) (cnt K) ⟨K.length, 0, 0, 0, false⟩
  map : InMap wr mi k (cnt K)
  own : OwnI wr B v K
  wf : ∀ x ∈ K, (Lit.int .i64 x).wf = true
  base : B ≤ wr.heap.size
  sm : Sm No w wr

def BdRel (w : World) (g m mi B : Nat) (a b : Int) (xs : List Int) (al v i : Value) (wr : World) : Prop :=
  ∃ (k : Nat) (K : List Int), k ≤ xs.length ∧ i = .int .i64 k ∧ al = .int .i64 K.length ∧ Bd w g m mi B a b K k v wr

set_option maxRecDepth 100000 in
set_option maxHeartbeats 8000000 in
theorem bounds_in (a b : Int) (h1 : 1 ≤ a) (h2 : a ≤ 64) (h3 : 1 ≤ b) (h4 : b ≤ 64) (A : Option Addr) (xs : List Int) (cap : Nat) (hl : xs.length ≤ 200) (w : World)
    (hA : ∀ k, k < xs.length → ∃ bb off, A = some ⟨bb, off, none⟩ ∧ bb < w.heap.size ∧ w.cell? ⟨bb, off + k, none⟩ = some (.int .i64 (xs.getD k 0))) (hwf : ∀ x ∈ xs, (Lit.int .i64 x).wf = true) :
    Calls Try.prog 4 #[.int .i64 a, .int .i64 b, .slice A xs.length cap] w fun e w' => e = .returned (.bool true) ∧ Sm No w w' := by
  have hmm := @run_makeMap Try.prog
  have b1 : decide (a < 1) = false := by simp; omega
  have b2 : decide (64 < a) = false := by simp; omega
  have b3 : decide (b < 1) = false := by simp; omega
  have b4 : decide (64 < b) = false := by simp; omega
  have b5 : decide (200 < (xs.length : Int)) = false := by simp; omega
  have HA := Lib.hid hA
  have HW := Lib.hid hwf
  clear hA hwf
  go_enter Try.func4, Try.ntmps4
  go_wp2_with fail
  refine (plain_lit _).mono ?_
  rintro e w1 ⟨rfl, hs1⟩
  go_wp2_with (first
    | (refine wpList_store_new rfl 25 _ _ rfl 16 infoCfg _ rfl _ rfl rfl rfl rfl rfl ?_)
    | (refine wpList_load_bk rfl 25 _ rfl Try.underlying25 16 infoCfg _ rfl _ (Bk.new _ _ _) rfl ?_))
  refine (new_ok (boundsC a b) _ (boundsC_ok a b h1 h2 h3 h4)).mono ?_
  rintro e w2 ⟨g, m, hg, hm, rfl, hG, hs2⟩
  go_wp2_with fail
  clear b1 b2 b3 b4 b5 hmm
  have hs3 : Sm No w w2 := (hs1.alloc _).trans hs2 (fun _ _ h => h)
  have hg0 : w.heap.size ≤ g := Nat.le_trans (Nat.le_trans hs1.size (by simp)) hg
  have hm0 : w.heap.size ≤ m := Nat.le_trans (Nat.le_trans hs1.size (by simp)) hm
  have hgl := hG.blk.lt
  have hml := hG.map.lt
  have hM := InMap.made w2 rfl
  have hG1 := hG.alloc (.map #[] 0)
  have hs4 := hs3.alloc (.map #[] 0)
  clear hs1 hs2 hs3 hg hm hG
  obtain ⟨mi, hmi⟩ : ∃ mi, mi = w2.heap.size := ⟨_, rfl⟩
  rw [← hmi] at hM hgl hml ⊢
  have hi0 : w.heap.size ≤ mi := by omega
  clear hmi
  generalize w2.alloc (.map #[] 0) = w3 at *
  have hB : mi < w3.heap.size := hM.lt
  obtain ⟨B, hBe⟩ : ∃ B, B = w3.heap.size := ⟨_, rfl⟩
  rw [← hBe] at hB
  have hBl := Nat.le_of_eq hBe
  clear hBe
  go_loopw [11, 12, 13] (fun al v i wr => BdRel w g m mi B a b xs al v i wr) (fun _ _ i _ => xs.length - (intOf i).toNat)
  case atStart => exact ⟨0, [], by omega, rfl, rfl, by simp, by simp; omega, by rw [cnt_nil]; exact hG1, by rw [cnt_nil]; exact hM, OwnI.nil _ _, by simp, hBl, hs4⟩
  case round =>
    obtain ⟨k, K, hk, rfl, rfl, hR⟩ := hrel
    clear hG1 hM hs4 hBl
    by_cases hlt : k < xs.length
    · obtain ⟨bb, off, rfl, hbb, hcell0⟩ := HA.out k hlt
      have hwk := HW.out (xs.getD k 0) (by simp [List.getD, hlt])
      obtain ⟨p, hp⟩ : ∃ p, p = xs.getD k 0 := ⟨_, rfl⟩
      rw [← hp] at hwk hcell0
      clear hp
      have hc := cnt_le K p
      have hKl := hR.len
      have hKt := hR.top
      have hcr := hR.sm.cell hbb hcell0
      have HR := Lib.hid hR
      by_cases hfit : (K.length : Int) < a ∧ cnt K p < b
      · obtain ⟨hf1, hf2⟩ := hfit
        have hfit : fitsB (boundsC a b) (cnt K) p ⟨K.length, 0, 0, 0, false⟩ = true := by
          have h3' : ¬ (a ≤ (K.length : Int)) := by omega
          simp [fitsB, fullB, boundsC, h3', hf2]
        have HF := Lib.hid hfit
        clear hfit hR
        go_wp2_with fail
        refine (took_keep _ ⟨K.length, 0, 0, 0, false⟩ _ g m k (cnt K) p HR.out.gate hwk (by omega) (by omega) (by omega) (by show (0 : Int) ≤ K.length; omega) (by show (K.length : Int) ≤ _; omega) HF.out).mono ?_
        rintro e w4 ⟨rfl, hG4, hs4⟩
        have hs5 : Sm No w w4 := HR.out.sm.trans hs4 (fun b hb h => by rcases h with h | h <;> subst h <;> omega)
        have hM4 := HR.out.map.sm hs4 (by rintro (h | h) <;> omega)
        have hO4 := HR.out.own.sm hs4 (by rintro b hb (h | h) <;> omega)
        clear hcr
        have hcr := hs5.cell hbb hcell0
        have hl4 := (hM4.look hwk).1
        have hG4 : IsGate w4 g m (k + 1) (boundsC a b) (upd (cnt K) p (cnt K p + 1)) ⟨K.length + 1, 0, 0, 0, false⟩ := hG4
        have hB4 := Nat.le_trans HR.out.base hs4.size
        clear hs4
        go_wp2_with (first
          | (at_mapUpdate; refine wpList_put_in rfl _ _ _ rfl mi k (cnt K) rfl hM4 (by unfold maxLen; omega) _ _ rfl rfl hwk (WalkArith.wf_i64 (by omega)) ?_; intro w5 hM5 hg5; clear hcr hl4; have hs6 := hs5.grown hg5 (fun j e => Or.inr (by injection e with e; omega)); have hcr := hs6.cell hbb hcell0; have hO5 := hO4.sm ((Sm.refl (fun x => x = mi) w4).grown hg5 (fun j e => Or.inl (by injection e with e; exact e.symm))) (by intro b hb h; omega); have hG5 : IsGate w5 g m (k + 1) (boundsC a b) (upd (cnt K) p (cnt K p + 1)) ⟨K.length + 1, 0, 0, 0, false⟩ := hG4.sm ((Sm.refl (fun x => x = mi) w4).grown hg5 (fun j e => Or.inl (by injection e with e; exact e.symm))) (by omega) (by omega); have hB5 := Nat.le_trans hB4 hg5.size)
          | (at_builtin; refine wpList_push_int rfl _ _ rfl rfl hO5 rfl (by omega) hB5 ?_; intro v6 w6 hO6 hs7; clear hcr; have hs8 : Sm No w w6 := hs6.trans hs7 (fun b hb h => by omega); have hcr := hs8.cell hbb hcell0))
        have hG6 := hG5.sm hs7 (by omega) (by omega)
        have hM6 := hM5.sm hs7 (by omega)
        have hB6 := Nat.le_trans hB5 hs7.size
        refine (count_any _ _ _ g m _ _ p hG6 hwk).mono ?_
        rintro e w7 ⟨rfl, n1, rfl⟩
        have hl7 := ((hM6.drewN n1).look hwk).1
        clear hcr
        have hcr := (hs8.drewN n1).cell hbb hcell0
        have hKt' : (K.length : Int) + 1 ≤ a := by omega
        obtain ⟨fu, hfu⟩ : ∃ fu, ((K.length : Int) + 1 == a) = fu := ⟨_, rfl⟩
        have HU : Hid (fullB (boundsC a b) ⟨K.length + 1, 0, 0, 0, false⟩ = fu) := Lib.hid (full_is K.length a fu hKt' hfu)
        have HD : Hid (∀ j, Bd w g m mi B a b (K ++ [p]) (k + 1) v6 (w6.drewN j)) := by
          intro j
          refine ⟨by simp; omega, by simp; omega, ?_, ?_, hO6.drewN j, ?_, hB6, hs8.drewN j⟩
          · rw [← cnt_snoc]; simpa using hG6.drewN j
          · rw [← cnt_snoc]; exact hM6.drewN j
          · intro x hx
            rcases List.mem_append.1 hx with h | h
            · exact HR.out.wf x h
            · rw [List.mem_singleton.1 h]; exact hwk
        go_wp2_with fail
        refine (full_say HU _ g m (hG6.drewN _).blk).mono ?_
        rintro e w7 ⟨rfl, n2, rfl⟩
        go_wp2_with fail
        exact ⟨⟨k + 1, K ++ [p], by omega, by go_num, by simp, HD.out _⟩, by simp [intOf]; omega⟩
      · have hfitB : fitsB (boundsC a b) (cnt K) p ⟨K.length, 0, 0, 0, false⟩ = false := by
          by_cases hf1 : (K.length : Int) < a
          · have hf2 : ¬ (cnt K p < b) := fun h => hfit ⟨hf1, h⟩
            simp [fitsB, fullB, boundsC, hf2]
          · have h3' : a ≤ (K.length : Int) := by omega
            simp [fitsB, fullB, boundsC, h3']
        have HF := Lib.hid hfitB
        have HM0 := hR.map
        have hl0 := (HM0.look hwk).1
        have HFit := Lib.hid hfit
        clear hfit hfitB hR HM0 hl0
        by_cases hf1 : (K.length : Int) < a
        case' pos =>
          have hf2 : decide (cnt K p < b) = false := by
            have : ¬ (cnt K p < b) := fun h => HFit.out ⟨hf1, h⟩
            simpa using this
          have hf3 : decide ((K.length : Int) < a) = true := by simpa using hf1
          have hfu : ((K.length : Int) == a) = false := by simp; omega
          have HU : Hid (fullB (boundsC a b) ⟨K.length, 0, 0, 0, false⟩ = false) := Lib.hid (full_is' _ _ _ hKt hfu)
        case' neg =>
          have hf3 : decide ((K.length : Int) < a) = false := by simpa using hf1
          have hfu : ((K.length : Int) == a) = true := by simp; omega
          have HU : Hid (fullB (boundsC a b) ⟨K.length, 0, 0, 0, false⟩ = true) := Lib.hid (full_is' _ _ _ hKt hfu)
        all_goals
          go_wp2_with fail
          refine (took_not _ ⟨K.length, 0, 0, 0, false⟩ _ g m k (cnt K) p HR.out.gate hwk HF.out).mono ?_
          rintro e w4 ⟨rfl, hG4, hs4⟩
          have hs5 : Sm No w w4 := HR.out.sm.trans hs4 (fun b hb h => by rcases h with h | h <;> subst h <;> omega)
          have hM4 := HR.out.map.sm hs4 (by rintro (h | h) <;> omega)
          have hO4 := HR.out.own.sm hs4 (by rintro b hb (h | h) <;> omega)
          have hB4 := Nat.le_trans HR.out.base hs4.size
          clear hcr hs4
          have hcr := hs5.cell hbb hcell0
          have hl4 := (hM4.look hwk).1
          go_wp2_with fail
          refine (count_any _ _ _ g m _ _ p hG4 hwk).mono ?_
          rintro e w7 ⟨rfl, n1, rfl⟩
          have hl7 := ((hM4.drewN n1).look hwk).1
          clear hcr hl4
          have hcr := (hs5.drewN n1).cell hbb hcell0
          have HD : Hid (∀ j, Bd w g m mi B a b K (k + 1) u12 (w4.drewN j)) := by
            intro j
            exact ⟨by omega, hKt, ⟨hG4.blk.drewN j, (hG4.map.drewN j).more (by omega), hG4.ne⟩, (hM4.drewN j).more (by omega), hO4.drewN j, HR.out.wf, hB4, hs5.drewN j⟩
          go_wp2_with fail
          refine (full_say HU _ g m (hG4.drewN _).blk).mono ?_
          rintro e w7 ⟨rfl, n2, rfl⟩
          go_wp2_with fail
          exact ⟨⟨k + 1, K, by omega, by go_num, rfl, HD.out _⟩, by simp [intOf]; omega⟩
    · have hKl := hR.len
      have hKt := hR.top
      have hwK := hR.wf
      have hfo := hR.own.form
      have HR := Lib.hid hR
      have HWK := Lib.hid hwK
      clear hR hwK
      rcases hfo with ⟨rfl, rfl⟩ | ⟨gb, cp, rfl, hgb, hgl', hcells⟩
      · go_wp2_with fail
        refine (left_none _ _).mono ?_
        rintro e w4 ⟨rfl, rfl⟩
        go_wp2_with fail
        refine (left_none _ _).mono ?_
        rintro e w4 ⟨rfl, rfl⟩
        go_wp2_with fail
        refine (known_any _).mono ?_
        rintro e w5 ⟨rfl, hs9⟩
        go_wp2_with fail
        go_ret
        exact ⟨rfl, HR.out.sm.trans hs9 (fun _ _ h => h)⟩
      · have HC := Lib.hid hcells
        clear hcells
        go_wp2_with fail
        refine (left_any _ _ _ g m k (cnt K) gb cp K HR.out.gate (by omega) (by omega) HC.out HWK.out (by omega) (by omega) (fun p => by have := cnt_le K p; omega) (by show (-1000000 : Int) ≤ K.length; omega) (by show (K.length : Int) ≤ _; omega)).mono ?_
        rintro e w4 ⟨he, hG4, hs4⟩
        rw [left_cnt K] at he hG4
        subst he
        have hs5 : Sm No w w4 := HR.out.sm.trans hs4 (fun b hb h => by rcases h with h | h <;> subst h <;> omega)
        have hO4 := HR.out.own.sm hs4 (by rintro b hb (h | h) <;> omega)
        have hfo := hO4.form
        rcases hfo with ⟨he, _⟩ | ⟨gb', cp', he, hgb', hgl'', hcells⟩
        · cases he
        · injection he with he1 he2 he3
          injection he1 with he1
          injection he1 with he1
          subst he1
          have HC' := Lib.hid hcells
          clear hcells he2 he3
          go_wp2_with fail
          refine (left_any _ _ _ g m _ _ gb cp K hG4 (by omega) (by omega) HC'.out HWK.out (by omega) (by omega) (fun p => (by omega : (0 : Int) ≤ 1000000)) (by show (-1000000 : Int) ≤ (K.length : Int) - (K.length : Int); omega) (by show (K.length : Int) - (K.length : Int) ≤ _; omega)).mono ?_
          rintro e w5 ⟨he, hG5, hs6⟩
          rw [left_zero K] at he
          subst he
          have hs7 : Sm No w w5 := hs5.trans hs6 (fun b hb h => by rcases h with h | h <;> subst h <;> omega)
          go_wp2_with fail
          refine (known_any _).mono ?_
          rintro e w5 ⟨rfl, hs9⟩
          go_wp2_with fail
          go_ret
          exact ⟨rfl, hs7.trans hs9 (fun _ _ h => h)⟩

set_option maxHeartbeats 1000000 in
theorem bounds_out (a b : Int) (A : Option Addr) (n cap : Nat) (h : a < 1 ∨ 64 < a ∨ b < 1 ∨ 64 < b ∨ 200 < (n : Int)) (w : World) :
    Calls Try.prog 4 #[.int .i64 a, .int .i64 b, .slice A n cap] w fun e w' => e = .returned (.bool true) ∧ Sm No w w' := by
  by_cases h1 : a < 1
  case' neg =>
    by_cases h2 : 64 < a
    case' neg =>
      by_cases h3 : b < 1
      case' neg =>
        by_cases h4 : 64 < b
        case' neg => have h5 : 200 < (n : Int) := by omega
  all_goals
    clear h
    go_enter Try.func4, Try.ntmps4
    go_wp2_with fail
    refine (known_any _).mono ?_
    rintro e w' ⟨rfl, hs⟩
    go_wp2_with fail
    go_ret
    exact ⟨rfl, hs⟩

theorem bounds_any (a0 a1 : Int) (A : Option Addr) (len cap : Nat) (zs : List Int) (w : World) (_w0 : (Lit.int .i64 a0).wf = true) (_w1 : (Lit.int .i64 a1).wf = true) (w2 : IsRow .i64 w A len cap zs) :
    Calls Try.prog 4 #[.int .i64 a0, .int .i64 a1, .slice A len cap] w fun e w' => e = .returned (.bool true) ∧ Sm No w w' := by
  by_cases h : a0 < 1 ∨ 64 < a0 ∨ a1 < 1 ∨ 64 < a1 ∨ 200 < (len : Int)
  · exact bounds_out a0 a1 A len cap h w
  · obtain ⟨xs, rfl, hw, hc⟩ := w2.reads
    exact bounds_in a0 a1 (by omega) (by omega) (by omega) (by omega) A xs cap (by omega) w hc hw
end Go.Proofs.Ytkgafpmblmobeaa
