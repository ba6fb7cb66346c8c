/- The document's Router: of; a text laid among those that rise. -/
import Derived.Test.YtiglfbimijnpcaaGreatDoorQT
import Derived.WalkLawsBesides
import Derived.Sort.Walk0
namespace Go.Proofs.YtiglfbimijnpcaaGreatDoor
open Go.RowKit Go.Proofs
variable {tt : TypeId} {tl : List Value}

def RoRel (w : World) (L : List Lt) (p m : Txt) (R : Option Int) (iv : Value) (wr : World) : Prop :=
  ∃ k : Nat, k ≤ L.length ∧ iv = .int .i64 k ∧ ofT p (L.drop k) m = R ∧ Sm No w wr
theorem ofT_at {L : List Lt} {k : Nat} (p m : Txt) (h : k < L.length) : ofT p (L.drop k) m = if (L[k].pat == p && (L[k].ms.isEmpty || L[k].ms.contains m)) = true then some L[k].id else ofT p (L.drop (k + 1)) m := by
  rw [List.drop_eq_getElem_cons h, ofT]

set_option maxRecDepth 100000 in
set_option maxHeartbeats 4000000 in
theorem rof_any (w : World) (O : Nat → Prop) (r : Nat) (L : List Lt) (p m : ByteArray) (h : IsTwin tt tl w O r L) (hL : L.length ≤ 64) (hms : ∀ x ∈ L, x.ms.length ≤ 4000) :
    Calls Tryz.prog 92 #[.pointer (some ⟨r, 0, none⟩), .string p, .string m] w fun e w' => e = .returned (ofV (ofT (txt p) L (txt m))) ∧ Sm No w w' := by
  obtain ⟨v, l, hT⟩ := h
  obtain ⟨AL, cL, rfl⟩ := hT.form
  obtain ⟨R, hR⟩ : ∃ R, ofT (txt p) L (txt m) = R := ⟨_, rfl⟩
  rw [hR]
  have HT := Lib.hid (And.intro hT (And.intro hms hR))
  clear hT hms hR
  go_enter Tryz.func92, Tryz.ntmps92
  go_wp2_with fail
  go_loopw [8] (fun i wr => RoRel w L (txt p) (txt m) R i wr) (fun i _ => L.length - (intOf i).toNat)
  case atStart => exact ⟨0, Nat.zero_le _, rfl, HT.out.2.2, Sm.refl _ _⟩
  case round =>
    obtain ⟨k, hk, rfl, hf, hsm⟩ := hrel
    have HS := Lib.hid (And.intro hsm hf)
    have c0 := (HT.out.1.no hsm).1.at 0 (v := .slice AL L.length cL) rfl
    clear hsm hf
    by_cases hlt : k < L.length
    · obtain ⟨g, A2, c2, hAe, r0, r1, r2, hR2, _⟩ := (HT.out.1.no HS.out.1).get hlt
      subst hAe
      have hat := ofT_at (txt p) (txt m) hlt
      have hml := HT.out.2.1 _ (List.getElem_mem hlt)
      rw [HS.out.2] at hat
      obtain ⟨y, hy⟩ : ∃ y, L[k].pat = y := ⟨_, rfl⟩
      obtain ⟨yi, hyi⟩ : ∃ y, L[k].id = y := ⟨_, rfl⟩
      obtain ⟨ym, hym⟩ : ∃ y, L[k].ms = y := ⟨_, rfl⟩
      rw [hy] at r0 hat
      rw [hyi] at r1 hat
      rw [hym] at r2 hR2 hat hml
      obtain ⟨pb, e1, e2⟩ : ∃ pb : ByteArray, strB y = .string pb ∧ txt pb = y := ⟨⟨y.toArray⟩, rfl, txt_mk _⟩
      rw [e1] at r0
      subst e2
      have HA := Lib.hid (And.intro hat hR2)
      have k1 : (0 : Int) ≤ (k : Int) := by omega
      have k2 : (k : Int) < (L.length : Int) := by omega
      clear hy hyi hym e1 hat hR2
      by_cases hpp : txt pb = txt p
      · obtain rfl : p = pb := by rw [← mk_txt pb, ← mk_txt p, hpp]
        clear hpp
        by_cases hm0 : ym = []
        · have hfin : R = some yi := by rw [HA.out.1, hm0]; simp
          have e0 : ((ym.length : Int) == 0) = true := by rw [hm0]; rfl
          subst hfin
          clear hm0
          go_wp2_with fail
          go_ret2
          exact ⟨rfl, HS.out.1⟩
        · have e0 : ((ym.length : Int) == 0) = false := by simpa using hm0
          have hE : ym.isEmpty = false := by simpa using hm0
          obtain ⟨b, hb⟩ : ∃ b, ym.contains (txt m) = b := ⟨_, rfl⟩
          have HB := Lib.hid hb
          have HE := Lib.hid hE
          clear hb hE hm0
          cases b with
          | true =>
            have hfin : R = some yi := by rw [HA.out.1, HE.out, HB.out]; simp
            subst hfin
            go_wp2_with fail
            refine (rhas_say HB wr A2 c2 HA.out.2 (by omega)).mono ?_
            rintro e w2 ⟨rfl, rfl⟩
            go_wp2_with fail
            go_ret2
            exact ⟨rfl, HS.out.1⟩
          | false =>
            have hfin : ofT (txt p) (L.drop (k + 1)) (txt m) = R := by rw [HA.out.1, HE.out, HB.out]; simp
            have HF := Lib.hid hfin
            clear hfin
            go_wp2_with fail
            refine (rhas_say HB wr A2 c2 HA.out.2 (by omega)).mono ?_
            rintro e w2 ⟨rfl, rfl⟩
            go_wp2_with fail
            exact ⟨⟨k + 1, by omega, by go_num, HF.out, HS.out.1⟩, by simp [intOf]; omega⟩
      · have e3 : ¬ pb.toList = p.toList := fun e => hpp ((bytes_eq_iff pb (txt p)).1 (e.trans ((bytes_eq_iff p (txt p)).2 rfl)))
        have e4 : (pb.toList == p.toList) = false := by simpa using e3
        have hfin : ofT (txt p) (L.drop (k + 1)) (txt m) = R := by
          rw [HA.out.1, if_neg (by simp [hpp])]
        have HF := Lib.hid hfin
        clear hfin hpp
        go_wp2_with fail
        exact ⟨⟨k + 1, by omega, by go_num, HF.out, HS.out.1⟩, by simp [intOf]; omega⟩
    · have hfin : R = none := by rw [← HS.out.2, List.drop_eq_nil_of_le (by omega)]; rfl
      subst hfin
      go_wp2_with fail
      go_ret2
      exact ⟨rfl, HS.out.1⟩

theorem strs_one (l : List Txt) : ∀ u ∈ l.map strV, u.oneCell' = true := by
  intro u hu
  obtain ⟨t, _, rfl⟩ := List.mem_map.1 hu
  rfl
theorem bytesLess_txt (a b : ByteArray) : Op.bytesLess a.toList b.toList = decide (txt a < txt b) := by
  rw [bytesLess_eq, Go.ByteArray.toList_eq, Go.ByteArray.toList_eq]; rfl
theorem take_stepA2 {l : List Txt} {s : Txt} {k : Nat} (h : ∀ x ∈ l.take k, x < s) (hk : k < l.length) (hp : l[k] < s) : ∀ x ∈ l.take (k + 1), x < s := by
  intro x hx
  rw [List.take_succ_eq_append_getElem hk, List.mem_append, List.mem_singleton] at hx
  rcases hx with hx | rfl
  · exact h x hx
  · exact hp
theorem RowC.take {w : World} {A : Option Addr} {l : List Txt} (h : RowC w A (l.map strV)) (k : Nat) : RowC w A ((l.take k).map strV) := by
  intro j u hj
  refine h j u ?_
  rw [List.map_take, List.getElem?_take] at hj
  split at hj
  · exact hj
  · cases hj
theorem RowC.drop {w : World} {bb off : Nat} {l : List Txt} (h : RowC w (some ⟨bb, off, none⟩) (l.map strV)) (k : Nat) : RowC w (some ⟨bb, off + k, none⟩) ((l.drop k).map strV) := by
  intro j u hj
  rw [List.map_drop, List.getElem?_drop] at hj
  obtain ⟨b2, o2, hA, hb, hc⟩ := h (k + j) u hj
  cases hA
  exact ⟨_, _, rfl, hb, by rw [Nat.add_assoc]; exact hc⟩
theorem lay_own2 {w w5 w6 : World} {v5 v6 : Value} {l : List Txt} {p : ByteArray} (h : Sm No w (w5.alloc (.cells #[.string p] 9))) (h5 : OwnT w5 w.heap.size v5 l) (hown : w6.ownsRow w.heap.size 9 1 v6 (l.length + 1) (l.map strV ++ [.string p])) (hs : Sm (fun b => v5.ownBlock = some b) (w5.alloc (.cells #[.string p] 9)) w6) :
    w6.ownsRow w.heap.size 9 1 v6 (l ++ [txt p]).length ((l ++ [txt p]).map strV) ∧ Sm No w w6 :=
  ⟨OwnT.push (by rw [show strV (txt p) = .string p from strB_txt p]; exact hown), h.trans hs (fun b hb e => by
    have := (World.ownsRow.lt h5 b e).1
    omega)⟩
theorem lay_own3 {w w6 w7 : World} {v6 v7 : Value} {l l2 : List Txt} (h : Sm No w w6) (h6 : w6.ownsRow w.heap.size 9 1 v6 l.length (l.map strV)) (hown : w7.ownsRow w.heap.size 9 1 v7 (l.length + l2.length) (l.map strV ++ l2.map strV)) (hs : Sm (fun b => v6.ownBlock = some b) w6 w7) :
    OwnT w7 w.heap.size v7 (l ++ l2) ∧ Sm No w w7 :=
  ⟨by unfold OwnT; rw [List.length_append, List.map_append]; exact hown, h.trans hs (fun b hb e => by
    have := (World.ownsRow.lt h6 b e).1
    omega)⟩

def LyRel (w : World) (l : List Txt) (s : Txt) (iv : Value) (wr : World) : Prop :=
  ∃ k : Nat, k ≤ l.length ∧ iv = .int .i64 k ∧ Sm No w wr ∧ ∀ x ∈ l.take k, x < s
theorem layL_skip {l r : List Txt} {s : Txt} (h : ∀ x ∈ l, x < s) : layL (l ++ r) s = l ++ layL r s := by
  induction l with
  | nil => rfl
  | cons x l ih =>
    rw [List.cons_append, layL, if_pos (h x (by simp)), ih (fun y hy => h y (by simp [hy]))]; rfl

set_option maxRecDepth 100000 in
set_option maxHeartbeats 4000000 in
theorem lay_any (w : World) (B : Nat) (v : Value) (l : List Txt) (s : ByteArray) (h : OwnT w B v l) (hB : B ≤ w.heap.size) (hl : l.length ≤ 900000) :
    Calls Tryz.prog 93 #[v, .string s] w fun e w' => ∃ v', e = .returned v' ∧ OwnT w' B v' (layL l (txt s)) ∧ Sm No w w' := by
  obtain ⟨A, c, rfl, hR, hlc, hn⟩ := own_rowC h
  have HA := Lib.hid (And.intro hR (And.intro h hn))
  clear hR h hn
  go_enter Tryz.func93, Tryz.ntmps93
  go_wp2_with fail
  go_loopw [5] (fun i wr => LyRel w l (txt s) i wr) (fun i _ => l.length - (intOf i).toNat)
  case atStart => exact ⟨0, Nat.zero_le _, rfl, Sm.refl _ _, fun x h => by simp at h⟩
  case round =>
    obtain ⟨k, hk, rfl, hsm, hno⟩ := hrel
    have HS := Lib.hid (And.intro hsm hno)
    clear hsm hno
    by_cases hlt : k < l.length
    · obtain ⟨bb, off, hAe, hbb, r0⟩ := (HA.out.1.no HS.out.1).at (strV_at hlt)
      subst hAe
      obtain ⟨t, ht⟩ : ∃ t : ByteArray, (⟨l[k].toArray⟩ : ByteArray) = t := ⟨_, rfl⟩
      have hts : txt t = l[k] := by rw [← ht, txt_mk]
      rw [ht] at r0
      have k1 : (0 : Int) ≤ (k : Int) := by omega
      have k2 : (k : Int) < (l.length : Int) := by omega
      clear ht
      have hlx := bytesLess_txt t s
      by_cases c1 : txt t < txt s
      · have b1 : Op.bytesLess t.toList s.toList = true := by rw [hlx]; simpa using c1
        have hst := take_stepA2 HS.out.2 hlt (hts ▸ c1)
        have HN := Lib.hid hst
        clear hlx c1 hst hts
        go_wp2_with fail
        exact ⟨⟨k + 1, by omega, by go_num, HS.out.1, HN.out⟩, by simp [intOf]; omega⟩
      · have b1 : Op.bytesLess t.toList s.toList = false := by rw [hlx]; simpa using c1
        by_cases c2 : txt t = txt s
        · obtain rfl : s = t := by rw [← mk_txt t, ← mk_txt s, c2]
          have hlay : layL l (txt s) = l := by
            conv => lhs; rw [← List.take_append_drop k l, layL_skip HS.out.2, List.drop_eq_getElem_cons hlt, ← hts, layL, if_neg (List.lt_irrefl _), if_pos rfl, hts, ← List.drop_eq_getElem_cons hlt, List.take_append_drop]
          have HL := Lib.hid hlay
          clear hlx c1 c2 hts hlay
          go_wp2_with fail
          go_ret
          exact ⟨_, rfl, by rw [HL.out]; exact HA.out.2.1.no HS.out.1, HS.out.1⟩
        · have e3 : ¬ t.toList = s.toList := fun e => c2 ((bytes_eq_iff t (txt s)).1 (e.trans ((bytes_eq_iff s (txt s)).2 rfl)))
          have e4 : (t.toList == s.toList) = false := by simpa using e3
          have hlay : layL l (txt s) = l.take k ++ [txt s] ++ l.drop k := by
            conv => lhs; rw [← List.take_append_drop k l, layL_skip HS.out.2, List.drop_eq_getElem_cons hlt, ← hts, layL, if_neg c1, if_neg c2, hts, ← List.drop_eq_getElem_cons hlt]
            simp
          have HL := Lib.hid hlay
          have kc : (k : Int) < (c : Int) := by omega
          clear hlx c1 c2 hts hlay
          have HI := Lib.hid (show (wr.alloc (.cells #[] 9)).ownsRow w.heap.size 9 1 (.slice (some ⟨wr.heap.size, 0, none⟩) 0 0) 0 [] ∧ RowC (wr.alloc (.cells #[] 9)) (some ⟨bb, off, none⟩ : Option Addr) ((l.take k).map strV) ∧ ((some ⟨bb, off, none⟩ : Option Addr) = none → k = 0 ∧ c = 0) ∧ w.heap.size ≤ (wr.alloc (.cells #[] 9)).heap.size ∧ (l.take k).length = k ∧
              (∀ W, Sm No w W → RowC W (some ⟨bb, off + k, none⟩ : Option Addr) ((l.drop k).map strV)) ∧ ((some ⟨bb, off + k, none⟩ : Option Addr) = none → l.length - k = 0 ∧ c - k = 0) ∧ (l.drop k).length = l.length - k from
            ⟨own_empty wr 9 1 HS.out.1.size, (HA.out.1.no (HS.out.1.alloc _)).take k, (fun e => by cases e), (HS.out.1.alloc _).size, by first | (simp; done) | (simp; omega), (fun W hW => (HA.out.1.no hW).drop k), (fun e => by cases e), by first | (simp; done) | (simp; omega)⟩)
          go_wp2_with (first
            | (refine wpList_push_opt rfl (.tmp 34) (.tmp 37) 82 9 rfl Tryz.underlying82 _ 1 16 infoStr rfl (by decide) (by decide) w.heap.size 0 _ [] rfl HI.out.1 (some ⟨bb, off, none⟩ : Option Addr) k _ ((l.take k).map strV) rfl HI.out.2.2.1 (by first | (simp; done) | (simp; omega)) HI.out.2.1 (strs_one _) (by omega) HI.out.2.2.2.1 ?_; intro v5 w5 hown5 hs5 hv5; have HB := Lib.hid (clean_own (p := s) HS.out.1 (by rw [HI.out.2.2.2.2.1]; exact hown5) hs5); clear hown5 hs5 hv5)
            | (refine wpList_push rfl (.tmp 38) (.tmp 40) 82 9 rfl Tryz.underlying82 _ 1 16 infoStr rfl (by decide) (by decide) w.heap.size _ _ _ rfl HB.out.1 w5.heap.size #[.string s] rfl (Bk.new w5 _ _) rfl (by simp [Value.oneCell']) (by first | (simp; done) | (simp; omega)) HB.out.2.2.2 ?_; intro v6 w6 hown6 hs6 hv6; have HF := Lib.hid (lay_own2 HB.out.2.1 HB.out.2.2.1 hown6 hs6); clear hown6 hs6 hv6)
            | (refine wpList_push_opt rfl (.tmp 42) (.tmp 45) 82 9 rfl Tryz.underlying82 _ 1 16 infoStr rfl (by decide) (by decide) w.heap.size _ _ _ rfl HF.out.1 (some ⟨bb, off + k, none⟩ : Option Addr) (l.length - k) _ ((l.drop k).map strV) rfl HI.out.2.2.2.2.2.2.1 (by first | (simp; done) | (simp; omega)) (HI.out.2.2.2.2.2.1 w6 HF.out.2) (strs_one _) (by first | (simp; done) | (simp; omega)) HF.out.2.size ?_; intro v7 w7 hown7 hs7 hv7; have HG := Lib.hid (lay_own3 (l2 := l.drop k) HF.out.2 HF.out.1 (by rw [HI.out.2.2.2.2.2.2.2]; exact hown7) hs7); clear hown7 hs7 hv7))
          go_ret
          exact ⟨_, rfl, own_row_base (HL.out ▸ HG.out.1) (fun b e => Nat.le_trans hB (World.ownsRow.lt HG.out.1 _ e).1), HG.out.2⟩
    · have hkl : k = l.length := by omega
      have hlay : layL l (txt s) = l.take k ++ [txt s] ++ l.drop k := by
        have h1 : l.take k = l := List.take_of_length_le (by omega)
        have h2 : l.drop k = [] := List.drop_eq_nil_of_le (by omega)
        have := layL_skip (l := l) (r := []) (s := txt s) (by have := HS.out.2; rw [h1] at this; exact this)
        rw [h1, h2]
        simpa [layL] using this
      have HL := Lib.hid hlay
      clear hlay
      rcases own_row_form HA.out.2.1 with ⟨hv, h0, _⟩ | ⟨g, cap, hv, _, _, _, hcp, _⟩
      · injection hv with hA hl0 hc0
        subst hA hc0
        obtain rfl : k = 0 := by omega
        have hl0' : ((l.length : Nat) : Int) = 0 := by omega
        have hln : l = [] := List.eq_nil_of_length_eq_zero h0
        subst hln
        have HK := Lib.hid hkl
        clear hkl hl0' h0 hl0
        have HI := Lib.hid (show (wr.alloc (.cells #[] 9)).ownsRow w.heap.size 9 1 (.slice (some ⟨wr.heap.size, 0, none⟩) 0 0) 0 [] ∧ RowC (wr.alloc (.cells #[] 9)) (none : Option Addr) ((([] : List Txt)).map strV) ∧ ((none : Option Addr) = none → (0 : Nat) = 0 ∧ (0 : Nat) = 0) ∧ w.heap.size ≤ (wr.alloc (.cells #[] 9)).heap.size ∧ (([] : List Txt)).length = 0 ∧
            (∀ W, Sm No w W → RowC W (none : Option Addr) ((([] : List Txt)).map strV)) ∧ ((none : Option Addr) = none → 0 = 0 ∧ 0 = 0) ∧ (([] : List Txt)).length = 0 from
          ⟨own_empty wr 9 1 HS.out.1.size, (RowC.nil _ _), (fun _ => ⟨rfl, rfl⟩), (HS.out.1.alloc _).size, by first | (simp; done) | (simp; omega), (fun W _ => RowC.nil _ _), (fun _ => ⟨rfl, rfl⟩), by first | (simp; done) | (simp; omega)⟩)
        go_wp2_with (first
          | (refine wpList_push_opt rfl (.tmp 34) (.tmp 37) 82 9 rfl Tryz.underlying82 _ 1 16 infoStr rfl (by decide) (by decide) w.heap.size 0 _ [] rfl HI.out.1 (none : Option Addr) 0 _ ((([] : List Txt)).map strV) rfl HI.out.2.2.1 (by first | (simp; done) | (simp; omega)) HI.out.2.1 (strs_one _) (by omega) HI.out.2.2.2.1 ?_; intro v5 w5 hown5 hs5 hv5; have HB := Lib.hid (clean_own (p := s) HS.out.1 (by rw [HI.out.2.2.2.2.1]; exact hown5) hs5); clear hown5 hs5 hv5)
          | (refine wpList_push rfl (.tmp 38) (.tmp 40) 82 9 rfl Tryz.underlying82 _ 1 16 infoStr rfl (by decide) (by decide) w.heap.size _ _ _ rfl HB.out.1 w5.heap.size #[.string s] rfl (Bk.new w5 _ _) rfl (by simp [Value.oneCell']) (by first | (simp; done) | (simp; omega)) HB.out.2.2.2 ?_; intro v6 w6 hown6 hs6 hv6; have HF := Lib.hid (lay_own2 HB.out.2.1 HB.out.2.2.1 hown6 hs6); clear hown6 hs6 hv6)
          | (refine wpList_push_opt rfl (.tmp 42) (.tmp 45) 82 9 rfl Tryz.underlying82 _ 1 16 infoStr rfl (by decide) (by decide) w.heap.size _ _ _ rfl HF.out.1 (none : Option Addr) (0) _ ((([] : List Txt)).map strV) rfl HI.out.2.2.2.2.2.2.1 (by first | (simp; done) | (simp; omega)) (HI.out.2.2.2.2.2.1 w6 HF.out.2) (strs_one _) (by first | (simp; done) | (simp; omega)) HF.out.2.size ?_; intro v7 w7 hown7 hs7 hv7; have HG := Lib.hid (lay_own3 (l2 := ([] : List Txt)) HF.out.2 HF.out.1 (by rw [HI.out.2.2.2.2.2.2.2]; exact hown7) hs7); clear hown7 hs7 hv7))
        go_ret
        exact ⟨_, rfl, own_row_base (HL.out ▸ HG.out.1) (fun b e => Nat.le_trans hB (World.ownsRow.lt HG.out.1 _ e).1), HG.out.2⟩
      · injection hv with hA _ hc
        subst hA hc
        by_cases hkc : c = k
        · obtain rfl : k = c := hkc.symm
          have HK := Lib.hid hkl
          clear hkl
          have HI := Lib.hid (show (wr.alloc (.cells #[] 9)).ownsRow w.heap.size 9 1 (.slice (some ⟨wr.heap.size, 0, none⟩) 0 0) 0 [] ∧ RowC (wr.alloc (.cells #[] 9)) (some ⟨g, 0, none⟩ : Option Addr) ((l.take k).map strV) ∧ ((some ⟨g, 0, none⟩ : Option Addr) = none → k = 0 ∧ k = 0) ∧ w.heap.size ≤ (wr.alloc (.cells #[] 9)).heap.size ∧ (l.take k).length = k ∧
              (∀ W, Sm No w W → RowC W (some ⟨g, 0, none⟩ : Option Addr) ((l.drop k).map strV)) ∧ ((some ⟨g, 0, none⟩ : Option Addr) = none → 0 = 0 ∧ (0 : Nat) = 0) ∧ (l.drop k).length = 0 from
            ⟨own_empty wr 9 1 HS.out.1.size, (HA.out.1.no (HS.out.1.alloc _)).take k, (fun e => by cases e), (HS.out.1.alloc _).size, by first | (simp; done) | (simp; omega), (fun W _ => by rw [List.drop_eq_nil_of_le (by omega)]; exact RowC.nil _ _), (fun e => by cases e), by first | (simp; done) | (simp; omega)⟩)
          go_wp2_with (first
            | (refine wpList_push_opt rfl (.tmp 34) (.tmp 37) 82 9 rfl Tryz.underlying82 _ 1 16 infoStr rfl (by decide) (by decide) w.heap.size 0 _ [] rfl HI.out.1 (some ⟨g, 0, none⟩ : Option Addr) k _ ((l.take k).map strV) rfl HI.out.2.2.1 (by first | (simp; done) | (simp; omega)) HI.out.2.1 (strs_one _) (by omega) HI.out.2.2.2.1 ?_; intro v5 w5 hown5 hs5 hv5; have HB := Lib.hid (clean_own (p := s) HS.out.1 (by rw [HI.out.2.2.2.2.1]; exact hown5) hs5); clear hown5 hs5 hv5)
            | (refine wpList_push rfl (.tmp 38) (.tmp 40) 82 9 rfl Tryz.underlying82 _ 1 16 infoStr rfl (by decide) (by decide) w.heap.size _ _ _ rfl HB.out.1 w5.heap.size #[.string s] rfl (Bk.new w5 _ _) rfl (by simp [Value.oneCell']) (by first | (simp; done) | (simp; omega)) HB.out.2.2.2 ?_; intro v6 w6 hown6 hs6 hv6; have HF := Lib.hid (lay_own2 HB.out.2.1 HB.out.2.2.1 hown6 hs6); clear hown6 hs6 hv6)
            | (refine wpList_push_opt rfl (.tmp 42) (.tmp 45) 82 9 rfl Tryz.underlying82 _ 1 16 infoStr rfl (by decide) (by decide) w.heap.size _ _ _ rfl HF.out.1 (some ⟨g, 0, none⟩ : Option Addr) (0) _ ((l.drop k).map strV) rfl HI.out.2.2.2.2.2.2.1 (by first | (simp; done) | (simp; omega)) (HI.out.2.2.2.2.2.1 w6 HF.out.2) (strs_one _) (by first | (simp; done) | (simp; omega)) HF.out.2.size ?_; intro v7 w7 hown7 hs7 hv7; have HG := Lib.hid (lay_own3 (l2 := l.drop k) HF.out.2 HF.out.1 (by rw [HI.out.2.2.2.2.2.2.2]; exact hown7) hs7); clear hown7 hs7 hv7))
          go_ret
          exact ⟨_, rfl, own_row_base (HL.out ▸ HG.out.1) (fun b e => Nat.le_trans hB (World.ownsRow.lt HG.out.1 _ e).1), HG.out.2⟩
        · have kc : (k : Int) < (c : Int) := by omega
          have HK := Lib.hid hkl
          clear hkl hkc
          have HI := Lib.hid (show (wr.alloc (.cells #[] 9)).ownsRow w.heap.size 9 1 (.slice (some ⟨wr.heap.size, 0, none⟩) 0 0) 0 [] ∧ RowC (wr.alloc (.cells #[] 9)) (some ⟨g, 0, none⟩ : Option Addr) ((l.take k).map strV) ∧ ((some ⟨g, 0, none⟩ : Option Addr) = none → k = 0 ∧ c = 0) ∧ w.heap.size ≤ (wr.alloc (.cells #[] 9)).heap.size ∧ (l.take k).length = k ∧
              (∀ W, Sm No w W → RowC W (some ⟨g, k, none⟩ : Option Addr) ((l.drop k).map strV)) ∧ ((some ⟨g, k, none⟩ : Option Addr) = none → l.length - k = 0 ∧ c - k = 0) ∧ (l.drop k).length = l.length - k from
            ⟨own_empty wr 9 1 HS.out.1.size, (HA.out.1.no (HS.out.1.alloc _)).take k, (fun e => by cases e), (HS.out.1.alloc _).size, by first | (simp; done) | (simp; omega), (fun W _ => by rw [List.drop_eq_nil_of_le (by omega)]; exact RowC.nil _ _), (fun e => by cases e), by first | (simp; done) | (simp; omega)⟩)
          go_wp2_with (first
            | (refine wpList_push_opt rfl (.tmp 34) (.tmp 37) 82 9 rfl Tryz.underlying82 _ 1 16 infoStr rfl (by decide) (by decide) w.heap.size 0 _ [] rfl HI.out.1 (some ⟨g, 0, none⟩ : Option Addr) k _ ((l.take k).map strV) rfl HI.out.2.2.1 (by first | (simp; done) | (simp; omega)) HI.out.2.1 (strs_one _) (by omega) HI.out.2.2.2.1 ?_; intro v5 w5 hown5 hs5 hv5; have HB := Lib.hid (clean_own (p := s) HS.out.1 (by rw [HI.out.2.2.2.2.1]; exact hown5) hs5); clear hown5 hs5 hv5)
            | (refine wpList_push rfl (.tmp 38) (.tmp 40) 82 9 rfl Tryz.underlying82 _ 1 16 infoStr rfl (by decide) (by decide) w.heap.size _ _ _ rfl HB.out.1 w5.heap.size #[.string s] rfl (Bk.new w5 _ _) rfl (by simp [Value.oneCell']) (by first | (simp; done) | (simp; omega)) HB.out.2.2.2 ?_; intro v6 w6 hown6 hs6 hv6; have HF := Lib.hid (lay_own2 HB.out.2.1 HB.out.2.2.1 hown6 hs6); clear hown6 hs6 hv6)
            | (refine wpList_push_opt rfl (.tmp 42) (.tmp 45) 82 9 rfl Tryz.underlying82 _ 1 16 infoStr rfl (by decide) (by decide) w.heap.size _ _ _ rfl HF.out.1 (some ⟨g, k, none⟩ : Option Addr) (l.length - k) _ ((l.drop k).map strV) rfl HI.out.2.2.2.2.2.2.1 (by first | (simp; done) | (simp; omega)) (HI.out.2.2.2.2.2.1 w6 HF.out.2) (strs_one _) (by first | (simp; done) | (simp; omega)) HF.out.2.size ?_; intro v7 w7 hown7 hs7 hv7; have HG := Lib.hid (lay_own3 (l2 := l.drop k) HF.out.2 HF.out.1 (by rw [HI.out.2.2.2.2.2.2.2]; exact hown7) hs7); clear hown7 hs7 hv7))
          go_ret
          exact ⟨_, rfl, own_row_base (HL.out ▸ HG.out.1) (fun b e => Nat.le_trans hB (World.ownsRow.lt HG.out.1 _ e).1), HG.out.2⟩
end Go.Proofs.YtiglfbimijnpcaaGreatDoor

