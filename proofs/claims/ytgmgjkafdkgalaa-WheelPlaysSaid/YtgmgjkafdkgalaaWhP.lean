/- moved. -/
import Derived.Test.YtgmgjkafdkgalaaWhO
namespace Go.Proofs.Ytgmgjkafdkgalaa
open Go.RowKit Go.Proofs Go.Maps

def slotAt (m l i : Nat) : Nat := if l = 4 then 0 else (m / 64 ^ l + i) % 64
/-- hs: just the handles of those whose place is in V, and those of vs, once each; v holds them. -/
def Got (w : World) (T : List Tb) (V : Nat × Nat → Prop) (vs : List Hd) (v : Value) (wr : World) : Prop :=
  ∃ hs : List Hd, wr.ownsRow w.heap.size 29 2 v hs.length (hCells hs) ∧ hs.Nodup ∧ (∀ h, h ∈ hs ↔ (∃ x ∈ T, x.t.h = h ∧ V x.p) ∨ h ∈ vs) ∧ Sm No w wr
theorem Got.congr {w wr : World} {T : List Tb} {V V' : Nat × Nat → Prop} {v : Value} {vs : List Hd} (h : Got w T V vs v wr) (e : ∀ x ∈ T, V x.p ↔ V' x.p) : Got w T V' vs v wr := by
  obtain ⟨hs, h1, h2, h4, h5⟩ := h
  refine ⟨hs, h1, h2, fun k => ?_, h5⟩
  rw [h4]
  exact ⟨fun h => h.imp (fun ⟨x, hx, a, b⟩ => ⟨x, hx, a, (e x hx).1 b⟩) id, fun h => h.imp (fun ⟨x, hx, a, b⟩ => ⟨x, hx, a, (e x hx).2 b⟩) id⟩
theorem Got.no {w wr wr' : World} {T : List Tb} {V : Nat × Nat → Prop} {v : Value} {vs : List Hd} (h : Got w T V vs v wr) (hs : Sm No wr wr') : Got w T V vs v wr' := by
  obtain ⟨hs', h1, h2, h4, h5⟩ := h
  exact ⟨hs', own_row_sm h1 hs (fun _ _ h => h), h2, h4, h5.trans hs (fun _ _ h => h)⟩
theorem Got.smw {w wr : World} {T : List Tb} {V : Nat × Nat → Prop} {v : Value} {vs : List Hd} (h : Got w T V vs v wr) : Sm No w wr := by
  obtain ⟨_, _, _, _, h5⟩ := h
  exact h5
theorem Got.form {w wr : World} {T : List Tb} {V : Nat × Nat → Prop} {v : Value} {vs : List Hd} (h : Got w T V vs v wr) : ∃ A n c, v = .slice A n c := by
  obtain ⟨hs, h1, _⟩ := h
  obtain ⟨A, c, rfl, _⟩ := own_rowC h1
  exact ⟨A, _, c, rfl⟩
theorem hCells_snoc (hs : List Hd) (h : Hd) : hCells (hs ++ [h]) = hCells hs ++ [.int .i64 h.slot, .int .i64 h.gen] := by simp [hCells]
/-- The places that were passed: all of lesser levels, i slots of level l. -/
def Vis (m n l i : Nat) (p : Nat × Nat) : Prop := (p.1 < l ∧ overL m n p.1 p.2 = true) ∨ (p.1 = l ∧ ∃ j, j < i ∧ p.2 = slotAt m l j)
theorem p64_pow {l : Nat} (h : l < 4) : p64 l = 64 ^ l := by
  match l, h with
  | 0, _ => rfl
  | 1, _ => rfl
  | 2, _ => rfl
  | 3, _ => rfl
theorem vis_next {m n k f t : Nat} (hk : k < 4) (hf : m / 64 ^ k = f) (ht : n / 64 ^ k = t) (hft : f ≤ t) {N : Nat} (hN : N = min 64 (t - f + 1)) (p : Nat × Nat) (hp : p.2 < 64) : Vis m n k N p ↔ Vis m n (k + 1) 0 p := by
  unfold Vis slotAt
  simp only [show ¬ k = 4 by omega, if_false, hf]
  have key : (∃ j, j < N ∧ p.2 = (f + j) % 64) ↔ overL m n k p.2 = true := by
    unfold overL
    rw [if_neg (by omega), p64_pow hk, hf, ht]
    simp only [Bool.and_eq_true, decide_eq_true_eq]
    constructor
    · rintro ⟨j, hj, e⟩
      exact ⟨hp, by omega⟩
    · rintro ⟨_, h⟩
      exact ⟨(p.2 + 64 - f % 64) % 64, by omega, by omega⟩
  constructor
  · rintro (⟨h1, h2⟩ | ⟨h1, h2⟩)
    · exact Or.inl ⟨by omega, h2⟩
    · exact Or.inl ⟨by omega, by rw [h1]; exact key.1 h2⟩
  · rintro (⟨h1, h2⟩ | ⟨h1, j, hj, _⟩)
    · by_cases e : p.1 = k
      · exact Or.inr ⟨e, key.2 (e ▸ h2)⟩
      · exact Or.inl ⟨by omega, h2⟩
    · omega
theorem vis_far {m n : Nat} (hne : m / 16777216 ≠ n / 16777216) (p : Nat × Nat) (h4 : p.1 = 4 → p.2 = 0) : Vis m n 4 1 p ↔ Vis m n 5 0 p := by
  unfold Vis slotAt
  constructor
  · rintro (⟨h1, h2⟩ | ⟨h1, _⟩)
    · exact Or.inl ⟨by omega, h2⟩
    · refine Or.inl ⟨by omega, ?_⟩
      rw [h1, h4 h1]
      simp [overL, hne]
  · rintro (⟨h1, h2⟩ | ⟨h1, j, hj, _⟩)
    · by_cases e : p.1 = 4
      · exact Or.inr ⟨e, 0, by omega, by rw [h4 e]; rfl⟩
      · exact Or.inl ⟨by omega, h2⟩
    · omega
theorem vis_all {m n : Nat} (p : Nat × Nat) (h : p.1 ≤ 4) : Vis m n 5 0 p ↔ overL m n p.1 p.2 = true := by
  unfold Vis
  exact ⟨fun h => h.elim (fun h => h.2) (fun ⟨_, j, hj, _⟩ => by omega), fun h2 => Or.inl ⟨by omega, h2⟩⟩
theorem vis_near {m n : Nat} (he : m / 16777216 = n / 16777216) (p : Nat × Nat) (h : p.1 ≤ 4) : Vis m n 4 0 p ↔ overL m n p.1 p.2 = true := by
  unfold Vis
  constructor
  · exact fun h => h.elim (fun h => h.2) (fun ⟨_, j, hj, _⟩ => by omega)
  · intro h2
    by_cases e : p.1 = 4
    · rw [e] at h2
      simp [overL, he] at h2
    · exact Or.inl ⟨by omega, h2⟩
/-- The slot's own keys. -/
theorem slot_keys {T : List Tb} {k sl : Nat} (hs : sl < 64) (hp : ∀ x ∈ T, x.p.2 < 64) (h : Hd) : h ∈ (inSlot T (k * 64 + sl)).map Prod.fst ↔ ∃ x ∈ T, x.t.h = h ∧ x.p.1 = k ∧ x.p.2 = sl := by
  unfold inSlot
  rw [List.map_map]
  simp only [List.mem_map, List.mem_filter, decide_eq_true_eq, Function.comp]
  constructor
  · rintro ⟨x, ⟨hx, e⟩, rfl⟩
    have := hp x hx
    unfold idx at e
    exact ⟨x, hx, rfl, by omega, by omega⟩
  · rintro ⟨x, hx, rfl, e1, e2⟩
    exact ⟨x, ⟨hx, by unfold idx; omega⟩, rfl⟩
theorem Got.done {w wr : World} {T : List Tb} {m n k i sl : Nat} {v : Value} {vs : List Hd} (h : Got w T (Vis m n k i) vs v wr) (hsl : slotAt m k i = sl) (hs : sl < 64) (hp : ∀ x ∈ T, x.p.2 < 64) (hvs : vs.Perm ((inSlot T (k * 64 + sl)).map Prod.fst)) : Got w T (Vis m n k (i + 1)) [] v wr := by
  obtain ⟨hs', h1, h2, h4, h5⟩ := h
  refine ⟨hs', h1, h2, fun h => ?_, h5⟩
  rw [h4, hvs.mem_iff, slot_keys hs hp]
  constructor
  · rintro (⟨x, hx, e, hv⟩ | ⟨x, hx, e, e1, e2⟩)
    · refine Or.inl ⟨x, hx, e, ?_⟩
      rcases hv with hv | ⟨hv, j, hj, e2⟩
      · exact Or.inl hv
      · exact Or.inr ⟨hv, j, by omega, e2⟩
    · exact Or.inl ⟨x, hx, e, Or.inr ⟨e1, i, by omega, by rw [e2, hsl]⟩⟩
  · rintro (⟨x, hx, e, hv⟩ | e)
    · rcases hv with hv | ⟨hv, j, hj, e2⟩
      · exact Or.inl ⟨x, hx, e, Or.inl hv⟩
      · by_cases e3 : j = i
        · subst e3; exact Or.inr ⟨x, hx, e, hv, by rw [e2, hsl]⟩
        · exact Or.inl ⟨x, hx, e, Or.inr ⟨hv, j, by omega, e2⟩⟩
    · cases e
/-- One handle more has come. -/
theorem got_fresh {T : List Tb} {m n k i sl : Nat} {vs hl : List Hd} {h : Hd} (h4 : ∀ h, h ∈ hl ↔ (∃ x ∈ T, x.t.h = h ∧ Vis m n k i x.p) ∨ h ∈ vs) (hI : ∀ x ∈ T, ∀ y ∈ T, x.t.h = y.t.h → x = y) (hsl : slotAt m k i = sl) (hi : i < 64) (hi4 : k = 4 → i = 0) (hs : sl < 64) (hp : ∀ x ∈ T, x.p.2 < 64)
    (hm : h ∈ (inSlot T (k * 64 + sl)).map Prod.fst) (hv : h ∉ vs) : h ∉ hl := by
  rw [h4]
  rintro (⟨x, hx, e, hvis⟩ | e)
  · obtain ⟨y, hy, e1, e2, e3⟩ := (slot_keys hs hp h).1 hm
    have := hI x hx y hy (e.trans e1.symm)
    subst this
    rcases hvis with ⟨g1, _⟩ | ⟨_, j, hj, g2⟩
    · omega
    · rw [e3, ← hsl] at g2
      unfold slotAt at g2
      by_cases hk : k = 4
      · have := hi4 hk; omega
      · rw [if_neg hk, if_neg hk] at g2
        omega
  · exact hv e
theorem own_not_iter {w : World} {B n : Nat} {t : TypeId} {size : Nat} {v : Value} {xs : List Value} {b r cnt : Nat} {l : List (Hd × Value)} {vs : List Hd} (h : w.ownsRow B t size v n xs) (hr : RangeL w b r l vs cnt) : v.ownBlock ≠ some r := fun e => by
  obtain ⟨cur, h1⟩ := own_type h e
  obtain ⟨_, _, _, _, E, n', left, ⟨es, clock, since, seen, c0, _, _, _, _, h5, _⟩, _⟩ := hr
  rw [h1] at h5
  cases h5
def Mov1 (w : World) (T : List Tb) (m n : Nat) (v iv : Value) (wr : World) : Prop := ∃ k : Nat, k ≤ 5 ∧ iv = .int .i64 k ∧ Got w T (Vis m n k 0) [] v wr
def Mov2 (w : World) (T : List Tb) (m n k N : Nat) (v iv : Value) (wr : World) : Prop := ∃ i : Nat, i ≤ N ∧ iv = .int .i64 i ∧ Got w T (Vis m n k i) [] v wr
def Mov3 (w : World) (T : List Tb) (m n k i sl b rI : Nat) (v : Value) (wr : World) : Prop := ∃ vs cnt, RangeL wr b rI (inSlot T (k * 64 + sl)) vs cnt ∧ Got w T (Vis m n k i) vs v wr
theorem own_not_mapr {w : World} {B n : Nat} {t : TypeId} {size : Nat} {v : Value} {xs : List Value} {b r cnt : Nat} {l : List (Hd × Value)} {vs : List Hd} (h : w.ownsRow B t size v n xs) (hr : RangeL w b r l vs cnt) : v.ownBlock ≠ some b := fun e => by
  obtain ⟨cur, h1⟩ := own_type h e
  obtain ⟨_, _, _, _, E, n', left, ⟨es, clock, since, seen, c0, h5, _⟩, _⟩ := hr
  rw [h1] at h5
  cases h5
theorem mov3_step {w wr w1 w2 w5 : World} {T : List Tb} {m n k i sl bj rI cnt cnt1 : Nat} {v v5 : Value} {vs hl : List Hd} {h : Hd} (hrg : RangeL wr bj rI (inSlot T (k * 64 + sl)) vs cnt) (hown : wr.ownsRow w.heap.size 29 2 v hl.length (hCells hl)) (hnd : hl.Nodup) (hiff : ∀ h, h ∈ hl ↔ (∃ x ∈ T, x.t.h = h ∧ Vis m n k i x.p) ∨ h ∈ vs)
    (hrg1 : RangeL w1 bj rI (inSlot T (k * 64 + sl)) (vs ++ [h]) cnt1) (hlt : cnt1 < cnt) (hsw1 : Sm No w w1) (ha : Sm No w1 w2) (hO2 : w2.ownsRow w.heap.size 29 2 v hl.length (hCells hl)) (hnew : h ∉ hl)
    (hown5 : w5.ownsRow w.heap.size 29 2 v5 (hl.length + 1) (hCells hl ++ [.int .i64 h.slot, .int .i64 h.gen])) (hs5 : Sm (fun b => v.ownBlock = some b) w2 w5) : Mov3 w T m n k i sl bj rI v5 w5 ∧ w5.rangeLeft bj rI < wr.rangeLeft bj rI := by
  have hr2 := hrg1.no ha
  have hr5 := hr2.sm hs5 (own_not_mapr hO2 hr2) (own_not_iter hO2 hr2)
  refine ⟨⟨_, _, hr5, hl ++ [h], ?_, ?_, fun q => ?_, ?_⟩, by rw [hr5.left, hrg.left]; exact hlt⟩
  · rw [hCells_snoc, List.length_append]; exact hown5
  · rw [List.nodup_append]
    exact ⟨hnd, by simp, fun a ha b hb e => by rw [List.mem_singleton] at hb; subst hb; subst e; exact hnew ha⟩
  · rw [List.mem_append, List.mem_append, hiff]
    exact ⟨fun h => by rcases h with (h | h) | h; exact Or.inl h; exact Or.inr (Or.inl h); exact Or.inr (Or.inr h), fun h => by rcases h with h | h | h; exact Or.inl (Or.inl h); exact Or.inl (Or.inr h); exact Or.inr h⟩
  · have hfr : ∀ b, v.ownBlock = some b → w.heap.size ≤ b := fun b e => by
      rcases own_row_form hown with ⟨rfl, _⟩ | ⟨g, cap, rfl, hg, hB, _⟩
      · cases e
      · rw [hg] at e; injection e with e; omega
    exact (((hsw1.trans ha (fun _ _ h => h)).any _).trans hs5 (fun b _ e => e)).mono (fun b hb e => by have := hfr b e; omega)
theorem infoHd : (Try.prog.info? 29).map (fun i => (i.zero, i.size, i.bytes)) = some (some (.agg #[.int .i64 0, .int .i64 0]), 2, 16) := by kernel_rfl
set_option maxRecDepth 100000 in
set_option maxHeartbeats 8000000 in
theorem moved_any (w : World) (Os : Nat → Prop) (r s tm m now ord n : Nat) (mb : Nat → Nat) (sb : List Sl) (T : List Tb) (h : IsW w Os r s tm mb now ord n sb T T) (hmn : m ≤ now) (hnow : now ≤ 1099511627776) (hlen : T.length ≤ 100000) (hp : ∀ x ∈ T, x.p.1 ≤ 4 ∧ (x.p.1 = 4 → x.p.2 = 0) ∧ x.p.2 < 64) :
    Calls Try.prog 33 #[.pointer (some ⟨r, 0, none⟩), .int .i64 m] w fun e w' => ∃ v, e = .returned v ∧ Got w T (fun p => overL m now p.1 p.2 = true) [] v w' := by
  have H := Lib.hid (And.intro h hp)
  clear h hp
  go_enter Try.func33, Try.ntmps33
  go_wp2_with fail
  go_loopw [5, 12] (fun v iv wr => Mov1 w T m now v iv wr) (fun _ iv _ => 5 - (intOf iv).toNat)
  case atStart => exact ⟨0, by omega, rfl, [], World.ownsRow_nil _ _ _ _, List.nodup_nil, fun h => ⟨(fun e => by cases e), (fun h => by
    rcases h with ⟨x, _, _, e⟩ | e
    · rcases e with ⟨e, _⟩ | ⟨_, j, hj, _⟩ <;> omega
    · cases e)⟩, Sm.refl _ _⟩
  case round =>
    obtain ⟨k, hk, rfl, hG⟩ := hrel
    have HG := Lib.hid hG
    have HI := Lib.hid (H.out.1.no hG.smw)
    have c0 := (H.out.1.no hG.smw).bk.at 0 (v := .int .i64 now) rfl
    obtain ⟨A, nA, cA, hRv⟩ := hG.form
    subst hRv
    clear hG
    by_cases hlt : k < 5
    · have hd : decide ((k : Int) < 5) = true := by simp; omega
      have ea := sh_eq m k
      have en := sh_eq now k
      obtain ⟨f, hf⟩ : ∃ f, m / 64 ^ k = f := ⟨_, rfl⟩
      obtain ⟨t, ht⟩ : ∃ t, now / 64 ^ k = t := ⟨_, rfl⟩
      have hft : f ≤ t := by rw [← hf, ← ht]; exact Nat.div_le_div_right hmn
      have hfb : t ≤ 1099511627776 := by rw [← ht]; exact Nat.le_trans (Nat.div_le_self _ _) hnow
      rw [hf] at ea
      rw [ht] at en
      have HF := Lib.hid (And.intro hf ht)
      clear hf ht
      by_cases h4 : k = 4
      · have h4d : ((k : Int) == 4) = true := by simp; omega
        have h4e : decide (k = 4) = true := by simp; omega
        have HN4 := Lib.hid h4
        by_cases hfe : f = t
        · have hfd : ((f : Int) == (t : Int)) = true := by simp; omega
          have hfin : Got w T (fun p => overL m now p.1 p.2 = true) [] (.slice A nA cA) wr := by
            have e4 := HN4.out
            subst e4
            exact HG.out.congr (fun x hx => vis_near (by have h1 := HF.out.1; have h2 := HF.out.2; simp at h1 h2; omega) x.p (H.out.2 x hx).1)
          have HFn := Lib.hid hfin
          clear hfin h4 hfe
          go_wp2_with fail
          go_quiet (fail)
          go_wp2_with fail
          go_ret
          exact ⟨_, rfl, HFn.out.no ((Sm.refl No _).drewN _)⟩
        · have hfd : ((f : Int) == (t : Int)) = false := by simp; omega
          have HNE := Lib.hid hfe
          have hlt2 : (f : Int) < (t : Int) := by omega
          clear hfe h4
          by_cases hmin : (t : Int) - (f : Int) + 1 < 64
          · go_wp2_with fail
            go_quiet (fail)
            go_wp2_with fail
            try simp only [ea, en]
            clear ea en
            go_loopw [5, 38] (fun v iv wr => Mov2 w T m now k 0 v iv wr) (fun _ _ _ => 0)
            case atStart => exact ⟨0, by omega, rfl, HG.out.no ((Sm.refl No _).drewN _)⟩
            case round =>
              obtain ⟨i, hi, rfl, hG2⟩ := hrel
              have HG2 := Lib.hid hG2
              have HI2 := Lib.hid (H.out.1.no hG2.smw)
              obtain ⟨A2, nA2, cA2, hRv⟩ := hG2.form
              subst hRv
              clear hG2
              obtain rfl : i = 0 := by omega
              · have hd2 : decide (((0 : Nat) : Int) < (t : Int) - (f : Int) + 1) = true := by simp; omega
                have cj := HI2.out.bk.at (4 + (k * 64 + 0)) (whCells_list (by omega))
                rw [show 4 + (k * 64 + 0) = 4 + k * 64 by omega] at cj
                have hMj := HI2.out.ls (k * 64 + 0) (by omega)
                obtain ⟨bj, hbj⟩ : ∃ bj, mb (k * 64 + 0) = bj := ⟨_, rfl⟩
                rw [hbj] at cj hMj
                have HM := Lib.hid (And.intro hMj hbj)
                have b1 : (0 : Int) ≤ (k : Int) := by omega
                have b2 : (k : Int) < 5 := by omega
                clear hMj hbj
                go_wp2_with (first | (at_range; refine wpList_range_L rfl _ _ _ rfl Try.underlying69 bj (inSlot T (k * 64 + 0)) rfl HM.out.1 ?_; intro w0 rI hrI hrg0 hs0) | fail)
                go_frame
                have HR := Lib.hid (And.intro hrI (And.intro hrg0 hs0))
                clear hrI hrg0 hs0 cj
                go_loopw [5] (fun v wr => Mov3 w T m now k 0 0 bj rI v wr) (fun _ wr => wr.rangeLeft bj rI)
                case atStart => exact ⟨[], _, HR.out.2.1, HG2.out.no HR.out.2.2⟩
                case round =>
                  obtain ⟨vs, cnt, hrg, hG3⟩ := hrel
                  obtain ⟨hl, g1, g2, g3, g4⟩ := hG3
                  obtain ⟨A3, cA3, hRv, _⟩ := own_rowC g1
                  subst hRv
                  have H3 := Lib.hid (And.intro hrg (And.intro g1 (And.intro g2 (And.intro g3 g4))))
                  clear hrg g1 g2 g3 g4
                  go_wp2_with (first | (at_next; refine wpList_next_L rfl _ rfl bj rI cnt (inSlot T (k * 64 + 0)) vs rfl H3.out.1 ?_ ?_) | fail)
                  · intro _ hpv
                    have hfin : Got w T (Vis m now k (0 + 1)) [] (.slice A3 hl.length cA3) wr := Got.done (vs := vs) ⟨hl, H3.out.2.1, H3.out.2.2.1, H3.out.2.2.2.1, H3.out.2.2.2.2⟩ (by unfold slotAt; rw [if_pos HN4.out]) (by omega) (fun x hx => (H.out.2 x hx).2.2) hpv
                    have HFin := Lib.hid (show Got w T (Vis m now (k + 1) 0) [] (.slice A3 hl.length cA3) wr from by
                      have e4 := HN4.out
                      subst e4
                      exact hfin.congr (fun x hx => vis_far (by have h1 := HF.out.1; have h2 := HF.out.2; have h3 := HNE.out; simp at h1 h2; omega) x.p (H.out.2 x hx).2.1))
                    clear hfin hpv
                    go_wp2_with fail
                    exact ⟨⟨k + 1, by omega, by go_num, HFin.out⟩, by simp [intOf]; omega⟩
                  · intro hd' vv w1 cnt1 hkv hnv hrg1 hltc hs1 hen
                    have HK := Lib.hid (And.intro hkv (And.intro hnv (And.intro hrg1 (And.intro hltc hs1))))
                    have hrI2 := H3.out.1.lt
                    have hne : (Value.slice A3 hl.length cA3).ownBlock ≠ some rI := own_not_iter H3.out.2.1 H3.out.1
                    have hsw1 : Sm No w w1 := (((H3.out.2.2.2.2).any _).trans hs1 (fun b _ e => e)).mono (fun b hb e => by have := HR.out.1; have := HG2.out.smw.size; omega)
                    have ha2 := ((Sm.refl No w1).alloc (.cells #[.int .i64 hd'.slot, .int .i64 hd'.gen] 29)).alloc (.cells #[.int .i64 hd'.slot, .int .i64 hd'.gen] 29)
                    have hO1 := own_row_sm (own_row_sm H3.out.2.1 hs1 (fun b e1 e2 => hne (by rw [e1, e2]))) ha2 (fun _ _ h => h)
                    have hB1 := Bk.newAt (w1.alloc (.cells #[.int .i64 hd'.slot, .int .i64 hd'.gen] 29)) 29 #[.int .i64 hd'.slot, .int .i64 hd'.gen] (g := w1.heap.size + 1) (by simp)
                    have hz1 : hl.length ≤ 1000000 := by
                      have := H3.out.2.2.1.length_le_of_subset (l₂ := (T.map (·.t.h)) ) (fun h hh => by
                        rcases (H3.out.2.2.2.1 h).1 hh with ⟨x, hx, e, _⟩ | e
                        · exact List.mem_map.2 ⟨x, hx, e⟩
                        · obtain ⟨_, _, _, hvs, _⟩ := H3.out.1
                          obtain ⟨x, hx, e2, _⟩ := (slot_keys (by omega) (fun x hx => (H.out.2 x hx).2.2) h).1 (hvs h e)
                          exact List.mem_map.2 ⟨x, hx, e2⟩)
                      rw [List.length_map] at this
                      omega
                    have hz2 : w.heap.size ≤ ((w1.alloc (.cells #[.int .i64 hd'.slot, .int .i64 hd'.gen] 29)).alloc (.cells #[.int .i64 hd'.slot, .int .i64 hd'.gen] 29)).heap.size := Nat.le_trans hsw1.size ha2.size
                    have hnew : hd' ∉ hl := got_fresh H3.out.2.2.2.1 (fun x hx y hy e => H.out.1.eqh hx hy e) (by unfold slotAt; rw [if_pos HN4.out]) (by omega) (fun _ => rfl) (by omega) (fun x hx => (H.out.2 x hx).2.2) (List.mem_map.2 ⟨_, hkv, rfl⟩) hnv
                    have HA := Lib.hid (And.intro hO1 (And.intro hB1 (And.intro hz1 (And.intro hz2 (And.intro hsw1 (And.intro ha2 hnew))))))
                    clear hO1 hB1 hz1 hz2 hsw1 ha2 hnew hne hrI2
                    unfold hv at hen
                    clear hkv hnv hrg1 hltc hs1
                    go_wp2_with (first | (refine wpList_push rfl (.tmp 60) (.tmp 62) 43 29 rfl Try.underlying43 _ 2 16 infoHd rfl (by decide) (by decide) w.heap.size hl.length _ (hCells hl) rfl HA.out.1 (w1.heap.size + 1) #[.int .i64 hd'.slot, .int .i64 hd'.gen] rfl HA.out.2.1 rfl (by simp [Value.oneCell']) HA.out.2.2.1 HA.out.2.2.2.1 ?_; intro v5 w5 hown5 hs5 hv5) | fail)
                    exact mov3_step H3.out.1 H3.out.2.1 H3.out.2.2.1 H3.out.2.2.2.1 HK.out.2.2.1 HK.out.2.2.2.1 HA.out.2.2.2.2.1 HA.out.2.2.2.2.2.1 HA.out.1 HA.out.2.2.2.2.2.2 hown5 hs5

          · go_wp2_with fail
            go_quiet (fail)
            go_wp2_with fail
            try simp only [ea, en]
            clear ea en
            go_loopw [5, 38] (fun v iv wr => Mov2 w T m now k 0 v iv wr) (fun _ _ _ => 0)
            case atStart => exact ⟨0, by omega, rfl, HG.out.no ((Sm.refl No _).drewN _)⟩
            case round =>
              obtain ⟨i, hi, rfl, hG2⟩ := hrel
              have HG2 := Lib.hid hG2
              have HI2 := Lib.hid (H.out.1.no hG2.smw)
              obtain ⟨A2, nA2, cA2, hRv⟩ := hG2.form
              subst hRv
              clear hG2
              obtain rfl : i = 0 := by omega
              · have hd2 : decide (((0 : Nat) : Int) < 64) = true := by simp
                have cj := HI2.out.bk.at (4 + (k * 64 + 0)) (whCells_list (by omega))
                rw [show 4 + (k * 64 + 0) = 4 + k * 64 by omega] at cj
                have hMj := HI2.out.ls (k * 64 + 0) (by omega)
                obtain ⟨bj, hbj⟩ : ∃ bj, mb (k * 64 + 0) = bj := ⟨_, rfl⟩
                rw [hbj] at cj hMj
                have HM := Lib.hid (And.intro hMj hbj)
                have b1 : (0 : Int) ≤ (k : Int) := by omega
                have b2 : (k : Int) < 5 := by omega
                clear hMj hbj
                go_wp2_with (first | (at_range; refine wpList_range_L rfl _ _ _ rfl Try.underlying69 bj (inSlot T (k * 64 + 0)) rfl HM.out.1 ?_; intro w0 rI hrI hrg0 hs0) | fail)
                go_frame
                have HR := Lib.hid (And.intro hrI (And.intro hrg0 hs0))
                clear hrI hrg0 hs0 cj
                go_loopw [5] (fun v wr => Mov3 w T m now k 0 0 bj rI v wr) (fun _ wr => wr.rangeLeft bj rI)
                case atStart => exact ⟨[], _, HR.out.2.1, HG2.out.no HR.out.2.2⟩
                case round =>
                  obtain ⟨vs, cnt, hrg, hG3⟩ := hrel
                  obtain ⟨hl, g1, g2, g3, g4⟩ := hG3
                  obtain ⟨A3, cA3, hRv, _⟩ := own_rowC g1
                  subst hRv
                  have H3 := Lib.hid (And.intro hrg (And.intro g1 (And.intro g2 (And.intro g3 g4))))
                  clear hrg g1 g2 g3 g4
                  go_wp2_with (first | (at_next; refine wpList_next_L rfl _ rfl bj rI cnt (inSlot T (k * 64 + 0)) vs rfl H3.out.1 ?_ ?_) | fail)
                  · intro _ hpv
                    have hfin : Got w T (Vis m now k (0 + 1)) [] (.slice A3 hl.length cA3) wr := Got.done (vs := vs) ⟨hl, H3.out.2.1, H3.out.2.2.1, H3.out.2.2.2.1, H3.out.2.2.2.2⟩ (by unfold slotAt; rw [if_pos HN4.out]) (by omega) (fun x hx => (H.out.2 x hx).2.2) hpv
                    have HFin := Lib.hid (show Got w T (Vis m now (k + 1) 0) [] (.slice A3 hl.length cA3) wr from by
                      have e4 := HN4.out
                      subst e4
                      exact hfin.congr (fun x hx => vis_far (by have h1 := HF.out.1; have h2 := HF.out.2; have h3 := HNE.out; simp at h1 h2; omega) x.p (H.out.2 x hx).2.1))
                    clear hfin hpv
                    go_wp2_with fail
                    exact ⟨⟨k + 1, by omega, by go_num, HFin.out⟩, by simp [intOf]; omega⟩
                  · intro hd' vv w1 cnt1 hkv hnv hrg1 hltc hs1 hen
                    have HK := Lib.hid (And.intro hkv (And.intro hnv (And.intro hrg1 (And.intro hltc hs1))))
                    have hrI2 := H3.out.1.lt
                    have hne : (Value.slice A3 hl.length cA3).ownBlock ≠ some rI := own_not_iter H3.out.2.1 H3.out.1
                    have hsw1 : Sm No w w1 := (((H3.out.2.2.2.2).any _).trans hs1 (fun b _ e => e)).mono (fun b hb e => by have := HR.out.1; have := HG2.out.smw.size; omega)
                    have ha2 := ((Sm.refl No w1).alloc (.cells #[.int .i64 hd'.slot, .int .i64 hd'.gen] 29)).alloc (.cells #[.int .i64 hd'.slot, .int .i64 hd'.gen] 29)
                    have hO1 := own_row_sm (own_row_sm H3.out.2.1 hs1 (fun b e1 e2 => hne (by rw [e1, e2]))) ha2 (fun _ _ h => h)
                    have hB1 := Bk.newAt (w1.alloc (.cells #[.int .i64 hd'.slot, .int .i64 hd'.gen] 29)) 29 #[.int .i64 hd'.slot, .int .i64 hd'.gen] (g := w1.heap.size + 1) (by simp)
                    have hz1 : hl.length ≤ 1000000 := by
                      have := H3.out.2.2.1.length_le_of_subset (l₂ := (T.map (·.t.h)) ) (fun h hh => by
                        rcases (H3.out.2.2.2.1 h).1 hh with ⟨x, hx, e, _⟩ | e
                        · exact List.mem_map.2 ⟨x, hx, e⟩
                        · obtain ⟨_, _, _, hvs, _⟩ := H3.out.1
                          obtain ⟨x, hx, e2, _⟩ := (slot_keys (by omega) (fun x hx => (H.out.2 x hx).2.2) h).1 (hvs h e)
                          exact List.mem_map.2 ⟨x, hx, e2⟩)
                      rw [List.length_map] at this
                      omega
                    have hz2 : w.heap.size ≤ ((w1.alloc (.cells #[.int .i64 hd'.slot, .int .i64 hd'.gen] 29)).alloc (.cells #[.int .i64 hd'.slot, .int .i64 hd'.gen] 29)).heap.size := Nat.le_trans hsw1.size ha2.size
                    have hnew : hd' ∉ hl := got_fresh H3.out.2.2.2.1 (fun x hx y hy e => H.out.1.eqh hx hy e) (by unfold slotAt; rw [if_pos HN4.out]) (by omega) (fun _ => rfl) (by omega) (fun x hx => (H.out.2 x hx).2.2) (List.mem_map.2 ⟨_, hkv, rfl⟩) hnv
                    have HA := Lib.hid (And.intro hO1 (And.intro hB1 (And.intro hz1 (And.intro hz2 (And.intro hsw1 (And.intro ha2 hnew))))))
                    clear hO1 hB1 hz1 hz2 hsw1 ha2 hnew hne hrI2
                    unfold hv at hen
                    clear hkv hnv hrg1 hltc hs1
                    go_wp2_with (first | (refine wpList_push rfl (.tmp 60) (.tmp 62) 43 29 rfl Try.underlying43 _ 2 16 infoHd rfl (by decide) (by decide) w.heap.size hl.length _ (hCells hl) rfl HA.out.1 (w1.heap.size + 1) #[.int .i64 hd'.slot, .int .i64 hd'.gen] rfl HA.out.2.1 rfl (by simp [Value.oneCell']) HA.out.2.2.1 HA.out.2.2.2.1 ?_; intro v5 w5 hown5 hs5 hv5) | fail)
                    exact mov3_step H3.out.1 H3.out.2.1 H3.out.2.2.1 H3.out.2.2.2.1 HK.out.2.2.1 HK.out.2.2.2.1 HA.out.2.2.2.2.1 HA.out.2.2.2.2.2.1 HA.out.1 HA.out.2.2.2.2.2.2 hown5 hs5

      · have h4d : ((k : Int) == 4) = false := by simp; omega
        have h4e : decide (k = 4) = false := by simp; omega
        have HN4 := Lib.hid h4
        by_cases hmin : (t : Int) - (f : Int) + 1 < 64
        · have HNN := Lib.hid (show t - f + 1 = min 64 (t - f + 1) by omega)
          go_wp2_with fail
          go_quiet (fail)
          go_wp2_with fail
          try simp only [ea, en]
          clear ea en
          go_loopw [5, 38] (fun v iv wr => Mov2 w T m now k (t - f + 1) v iv wr) (fun _ iv _ => t - f + 1 - (intOf iv).toNat)
          case atStart => exact ⟨0, by omega, rfl, HG.out.no ((Sm.refl No _).drewN _)⟩
          case round =>
            obtain ⟨i, hi, rfl, hG2⟩ := hrel
            have HG2 := Lib.hid hG2
            have HI2 := Lib.hid (H.out.1.no hG2.smw)
            obtain ⟨A2, nA2, cA2, hRv⟩ := hG2.form
            subst hRv
            clear hG2
            by_cases hlti : i < t - f + 1
            · have hd2 : decide ((i : Int) < (t : Int) - (f : Int) + 1) = true := by simp; omega
              obtain ⟨sl, hsl⟩ : ∃ sl, (f + i) % 64 = sl := ⟨_, rfl⟩
              have hsl64 : sl < 64 := by omega
              have hslI : ((f : Int) + (i : Int)) % 64 = (sl : Int) := by omega
              have hslT : ((f : Int) + (i : Int)).tmod 64 = (sl : Int) := by rw [Int.tmod_eq_emod_of_nonneg (by omega)]; exact hslI
              have cj := HI2.out.bk.at (4 + (k * 64 + sl)) (whCells_list (by omega))
              rw [show 4 + (k * 64 + sl) = 4 + k * 64 + sl by omega] at cj
              have hMj := HI2.out.ls (k * 64 + sl) (by omega)
              obtain ⟨bj, hbj⟩ : ∃ bj, mb (k * 64 + sl) = bj := ⟨_, rfl⟩
              rw [hbj] at cj hMj
              have HM := Lib.hid (And.intro hMj (And.intro hsl hbj))
              have b1 : (0 : Int) ≤ (k : Int) := by omega
              have b2 : (k : Int) < 5 := by omega
              have b3 : (0 : Int) ≤ (sl : Int) := by omega
              have b4 : (sl : Int) < 64 := by omega
              clear hMj hbj hsl
              go_wp2_with (first | (at_range; refine wpList_range_L rfl _ _ _ rfl Try.underlying69 bj (inSlot T (k * 64 + sl)) rfl HM.out.1 ?_; intro w0 rI hrI hrg0 hs0) | fail)
              go_frame
              have HR := Lib.hid (And.intro hrI (And.intro hrg0 hs0))
              clear hrI hrg0 hs0 cj
              go_loopw [5] (fun v wr => Mov3 w T m now k i sl bj rI v wr) (fun _ wr => wr.rangeLeft bj rI)
              case atStart => exact ⟨[], _, HR.out.2.1, HG2.out.no HR.out.2.2⟩
              case round =>
                obtain ⟨vs, cnt, hrg, hG3⟩ := hrel
                obtain ⟨hl, g1, g2, g3, g4⟩ := hG3
                obtain ⟨A3, cA3, hRv, _⟩ := own_rowC g1
                subst hRv
                have H3 := Lib.hid (And.intro hrg (And.intro g1 (And.intro g2 (And.intro g3 g4))))
                clear hrg g1 g2 g3 g4
                go_wp2_with (first | (at_next; refine wpList_next_L rfl _ rfl bj rI cnt (inSlot T (k * 64 + sl)) vs rfl H3.out.1 ?_ ?_) | fail)
                · intro _ hpv
                  have hfin : Got w T (Vis m now k (i + 1)) [] (.slice A3 hl.length cA3) wr := Got.done (vs := vs) ⟨hl, H3.out.2.1, H3.out.2.2.1, H3.out.2.2.2.1, H3.out.2.2.2.2⟩ (by unfold slotAt; rw [if_neg HN4.out, HF.out.1]; exact HM.out.2.1) hsl64 (fun x hx => (H.out.2 x hx).2.2) hpv
                  have HFn := Lib.hid hfin
                  clear hfin hpv
                  go_wp2_with fail
                  exact ⟨⟨i + 1, by omega, by go_num, HFn.out⟩, by simp [intOf]; omega⟩
                · intro hd' vv w1 cnt1 hkv hnv hrg1 hltc hs1 hen
                  have HK := Lib.hid (And.intro hkv (And.intro hnv (And.intro hrg1 (And.intro hltc hs1))))
                  have hrI2 := H3.out.1.lt
                  have hne : (Value.slice A3 hl.length cA3).ownBlock ≠ some rI := own_not_iter H3.out.2.1 H3.out.1
                  have hsw1 : Sm No w w1 := (((H3.out.2.2.2.2).any _).trans hs1 (fun b _ e => e)).mono (fun b hb e => by have := HR.out.1; have := HG2.out.smw.size; omega)
                  have ha2 := ((Sm.refl No w1).alloc (.cells #[.int .i64 hd'.slot, .int .i64 hd'.gen] 29)).alloc (.cells #[.int .i64 hd'.slot, .int .i64 hd'.gen] 29)
                  have hO1 := own_row_sm (own_row_sm H3.out.2.1 hs1 (fun b e1 e2 => hne (by rw [e1, e2]))) ha2 (fun _ _ h => h)
                  have hB1 := Bk.newAt (w1.alloc (.cells #[.int .i64 hd'.slot, .int .i64 hd'.gen] 29)) 29 #[.int .i64 hd'.slot, .int .i64 hd'.gen] (g := w1.heap.size + 1) (by simp)
                  have hz1 : hl.length ≤ 1000000 := by
                    have := H3.out.2.2.1.length_le_of_subset (l₂ := (T.map (·.t.h)) ) (fun h hh => by
                      rcases (H3.out.2.2.2.1 h).1 hh with ⟨x, hx, e, _⟩ | e
                      · exact List.mem_map.2 ⟨x, hx, e⟩
                      · obtain ⟨_, _, _, hvs, _⟩ := H3.out.1
                        obtain ⟨x, hx, e2, _⟩ := (slot_keys hsl64 (fun x hx => (H.out.2 x hx).2.2) h).1 (hvs h e)
                        exact List.mem_map.2 ⟨x, hx, e2⟩)
                    rw [List.length_map] at this
                    omega
                  have hz2 : w.heap.size ≤ ((w1.alloc (.cells #[.int .i64 hd'.slot, .int .i64 hd'.gen] 29)).alloc (.cells #[.int .i64 hd'.slot, .int .i64 hd'.gen] 29)).heap.size := Nat.le_trans hsw1.size ha2.size
                  have hnew : hd' ∉ hl := got_fresh H3.out.2.2.2.1 (fun x hx y hy e => H.out.1.eqh hx hy e) (by unfold slotAt; rw [if_neg HN4.out, HF.out.1]; exact HM.out.2.1) (by omega) (fun e => absurd e HN4.out) hsl64 (fun x hx => (H.out.2 x hx).2.2) (List.mem_map.2 ⟨_, hkv, rfl⟩) hnv
                  have HA := Lib.hid (And.intro hO1 (And.intro hB1 (And.intro hz1 (And.intro hz2 (And.intro hsw1 (And.intro ha2 hnew))))))
                  clear hO1 hB1 hz1 hz2 hsw1 ha2 hnew hne hrI2
                  unfold hv at hen
                  clear hkv hnv hrg1 hltc hs1
                  go_wp2_with (first | (refine wpList_push rfl (.tmp 60) (.tmp 62) 43 29 rfl Try.underlying43 _ 2 16 infoHd rfl (by decide) (by decide) w.heap.size hl.length _ (hCells hl) rfl HA.out.1 (w1.heap.size + 1) #[.int .i64 hd'.slot, .int .i64 hd'.gen] rfl HA.out.2.1 rfl (by simp [Value.oneCell']) HA.out.2.2.1 HA.out.2.2.2.1 ?_; intro v5 w5 hown5 hs5 hv5) | fail)
                  exact mov3_step H3.out.1 H3.out.2.1 H3.out.2.2.1 H3.out.2.2.2.1 HK.out.2.2.1 HK.out.2.2.2.1 HA.out.2.2.2.2.1 HA.out.2.2.2.2.2.1 HA.out.1 HA.out.2.2.2.2.2.2 hown5 hs5
            · obtain rfl : i = t - f + 1 := by omega
              have hd2 : decide (((t - f + 1 : Nat) : Int) < (t : Int) - (f : Int) + 1) = false := by simp; omega
              go_wp2_with fail
              exact ⟨⟨k + 1, by omega, by go_num, HG2.out.congr (fun x hx => vis_next (by have := HN4.out; omega) HF.out.1 HF.out.2 hft HNN.out x.p (H.out.2 x hx).2.2)⟩, by simp [intOf]; omega⟩
        · have HNN := Lib.hid (show 64 = min 64 (t - f + 1) by omega)
          go_wp2_with fail
          go_quiet (fail)
          go_wp2_with fail
          try simp only [ea, en]
          clear ea en
          go_loopw [5, 38] (fun v iv wr => Mov2 w T m now k 64 v iv wr) (fun _ iv _ => 64 - (intOf iv).toNat)
          case atStart => exact ⟨0, by omega, rfl, HG.out.no ((Sm.refl No _).drewN _)⟩
          case round =>
            obtain ⟨i, hi, rfl, hG2⟩ := hrel
            have HG2 := Lib.hid hG2
            have HI2 := Lib.hid (H.out.1.no hG2.smw)
            obtain ⟨A2, nA2, cA2, hRv⟩ := hG2.form
            subst hRv
            clear hG2
            by_cases hlti : i < 64
            · have hd2 : decide ((i : Int) < 64) = true := by simp; omega
              obtain ⟨sl, hsl⟩ : ∃ sl, (f + i) % 64 = sl := ⟨_, rfl⟩
              have hsl64 : sl < 64 := by omega
              have hslI : ((f : Int) + (i : Int)) % 64 = (sl : Int) := by omega
              have hslT : ((f : Int) + (i : Int)).tmod 64 = (sl : Int) := by rw [Int.tmod_eq_emod_of_nonneg (by omega)]; exact hslI
              have cj := HI2.out.bk.at (4 + (k * 64 + sl)) (whCells_list (by omega))
              rw [show 4 + (k * 64 + sl) = 4 + k * 64 + sl by omega] at cj
              have hMj := HI2.out.ls (k * 64 + sl) (by omega)
              obtain ⟨bj, hbj⟩ : ∃ bj, mb (k * 64 + sl) = bj := ⟨_, rfl⟩
              rw [hbj] at cj hMj
              have HM := Lib.hid (And.intro hMj (And.intro hsl hbj))
              have b1 : (0 : Int) ≤ (k : Int) := by omega
              have b2 : (k : Int) < 5 := by omega
              have b3 : (0 : Int) ≤ (sl : Int) := by omega
              have b4 : (sl : Int) < 64 := by omega
              clear hMj hbj hsl
              go_wp2_with (first | (at_range; refine wpList_range_L rfl _ _ _ rfl Try.underlying69 bj (inSlot T (k * 64 + sl)) rfl HM.out.1 ?_; intro w0 rI hrI hrg0 hs0) | fail)
              go_frame
              have HR := Lib.hid (And.intro hrI (And.intro hrg0 hs0))
              clear hrI hrg0 hs0 cj
              go_loopw [5] (fun v wr => Mov3 w T m now k i sl bj rI v wr) (fun _ wr => wr.rangeLeft bj rI)
              case atStart => exact ⟨[], _, HR.out.2.1, HG2.out.no HR.out.2.2⟩
              case round =>
                obtain ⟨vs, cnt, hrg, hG3⟩ := hrel
                obtain ⟨hl, g1, g2, g3, g4⟩ := hG3
                obtain ⟨A3, cA3, hRv, _⟩ := own_rowC g1
                subst hRv
                have H3 := Lib.hid (And.intro hrg (And.intro g1 (And.intro g2 (And.intro g3 g4))))
                clear hrg g1 g2 g3 g4
                go_wp2_with (first | (at_next; refine wpList_next_L rfl _ rfl bj rI cnt (inSlot T (k * 64 + sl)) vs rfl H3.out.1 ?_ ?_) | fail)
                · intro _ hpv
                  have hfin : Got w T (Vis m now k (i + 1)) [] (.slice A3 hl.length cA3) wr := Got.done (vs := vs) ⟨hl, H3.out.2.1, H3.out.2.2.1, H3.out.2.2.2.1, H3.out.2.2.2.2⟩ (by unfold slotAt; rw [if_neg HN4.out, HF.out.1]; exact HM.out.2.1) hsl64 (fun x hx => (H.out.2 x hx).2.2) hpv
                  have HFn := Lib.hid hfin
                  clear hfin hpv
                  go_wp2_with fail
                  exact ⟨⟨i + 1, by omega, by go_num, HFn.out⟩, by simp [intOf]; omega⟩
                · intro hd' vv w1 cnt1 hkv hnv hrg1 hltc hs1 hen
                  have HK := Lib.hid (And.intro hkv (And.intro hnv (And.intro hrg1 (And.intro hltc hs1))))
                  have hrI2 := H3.out.1.lt
                  have hne : (Value.slice A3 hl.length cA3).ownBlock ≠ some rI := own_not_iter H3.out.2.1 H3.out.1
                  have hsw1 : Sm No w w1 := (((H3.out.2.2.2.2).any _).trans hs1 (fun b _ e => e)).mono (fun b hb e => by have := HR.out.1; have := HG2.out.smw.size; omega)
                  have ha2 := ((Sm.refl No w1).alloc (.cells #[.int .i64 hd'.slot, .int .i64 hd'.gen] 29)).alloc (.cells #[.int .i64 hd'.slot, .int .i64 hd'.gen] 29)
                  have hO1 := own_row_sm (own_row_sm H3.out.2.1 hs1 (fun b e1 e2 => hne (by rw [e1, e2]))) ha2 (fun _ _ h => h)
                  have hB1 := Bk.newAt (w1.alloc (.cells #[.int .i64 hd'.slot, .int .i64 hd'.gen] 29)) 29 #[.int .i64 hd'.slot, .int .i64 hd'.gen] (g := w1.heap.size + 1) (by simp)
                  have hz1 : hl.length ≤ 1000000 := by
                    have := H3.out.2.2.1.length_le_of_subset (l₂ := (T.map (·.t.h)) ) (fun h hh => by
                      rcases (H3.out.2.2.2.1 h).1 hh with ⟨x, hx, e, _⟩ | e
                      · exact List.mem_map.2 ⟨x, hx, e⟩
                      · obtain ⟨_, _, _, hvs, _⟩ := H3.out.1
                        obtain ⟨x, hx, e2, _⟩ := (slot_keys hsl64 (fun x hx => (H.out.2 x hx).2.2) h).1 (hvs h e)
                        exact List.mem_map.2 ⟨x, hx, e2⟩)
                    rw [List.length_map] at this
                    omega
                  have hz2 : w.heap.size ≤ ((w1.alloc (.cells #[.int .i64 hd'.slot, .int .i64 hd'.gen] 29)).alloc (.cells #[.int .i64 hd'.slot, .int .i64 hd'.gen] 29)).heap.size := Nat.le_trans hsw1.size ha2.size
                  have hnew : hd' ∉ hl := got_fresh H3.out.2.2.2.1 (fun x hx y hy e => H.out.1.eqh hx hy e) (by unfold slotAt; rw [if_neg HN4.out, HF.out.1]; exact HM.out.2.1) (by omega) (fun e => absurd e HN4.out) hsl64 (fun x hx => (H.out.2 x hx).2.2) (List.mem_map.2 ⟨_, hkv, rfl⟩) hnv
                  have HA := Lib.hid (And.intro hO1 (And.intro hB1 (And.intro hz1 (And.intro hz2 (And.intro hsw1 (And.intro ha2 hnew))))))
                  clear hO1 hB1 hz1 hz2 hsw1 ha2 hnew hne hrI2
                  unfold hv at hen
                  clear hkv hnv hrg1 hltc hs1
                  go_wp2_with (first | (refine wpList_push rfl (.tmp 60) (.tmp 62) 43 29 rfl Try.underlying43 _ 2 16 infoHd rfl (by decide) (by decide) w.heap.size hl.length _ (hCells hl) rfl HA.out.1 (w1.heap.size + 1) #[.int .i64 hd'.slot, .int .i64 hd'.gen] rfl HA.out.2.1 rfl (by simp [Value.oneCell']) HA.out.2.2.1 HA.out.2.2.2.1 ?_; intro v5 w5 hown5 hs5 hv5) | fail)
                  exact mov3_step H3.out.1 H3.out.2.1 H3.out.2.2.1 H3.out.2.2.2.1 HK.out.2.2.1 HK.out.2.2.2.1 HA.out.2.2.2.2.1 HA.out.2.2.2.2.2.1 HA.out.1 HA.out.2.2.2.2.2.2 hown5 hs5
            · obtain rfl : i = 64 := by omega
              have hd2 : decide (((64 : Nat) : Int) < 64) = false := by simp
              go_wp2_with fail
              exact ⟨⟨k + 1, by omega, by go_num, HG2.out.congr (fun x hx => vis_next (by have := HN4.out; omega) HF.out.1 HF.out.2 hft HNN.out x.p (H.out.2 x hx).2.2)⟩, by simp [intOf]; omega⟩
    · obtain rfl : k = 5 := by omega
      have hd : decide (((5 : Nat) : Int) < 5) = false := by simp
      go_wp2_with fail
      go_ret
      exact ⟨_, rfl, HG.out.congr (fun x hx => vis_all x.p (H.out.2 x hx).1)⟩
end Go.Proofs.Ytgmgjkafdkgalaa
