/- Responses as bytes, in words; which fields Encode lays itself. -/
/- Responses as bytes: may a response be encoded? -/
/- Responses as bytes: the walk of may. -/
/- Responses as bytes: the answer in words. -/
/- The document's bodies in chunks: Encode. -/
import Derived.Test.YtiglfbimijnpcaaGreatDoorQQ
import Derived.Test.YtiglfbimijnpcaaGreatDoorQD
import Derived.Test.YtiglfbimijnpcaaGreatDoorQSiteI
import Derived.Test.YtiglfbimijnpcaaGreatDoorQX
import Derived.Lib.AppendStr
namespace Go.Proofs.YtiglfbimijnpcaaGreatDoor
open Go.RowKit Go.Proofs

def ownL (n : Txt) : Bool := sameL n nLen.data.toList || (sameL n nCod.data.toList || sameL n nCon.data.toList)
/-- The last end of parts that go up, none of them beyond n; none: they do not. -/
def partsT (n : Nat) : Nat → List Nat → Option Nat
  | last, [] => some last
  | last, p :: r => if p ≤ last ∨ n < p then none else partsT n p r
def partsOk (n : Nat) (l : List Nat) : Bool := match partsT n 0 l with
  | none => false
  | some last => l.isEmpty || last == n
set_option maxRecDepth 100000 in
set_option maxHeartbeats 4000000 in
theorem rOwn_any (s : ByteArray) (hs : s.size ≤ 1000000) (w : World) : Calls Tryz.prog 73 #[.string s] w fun e w' => e = .returned (.bool (ownL (txt s))) ∧ Sm No w w' := by
  obtain ⟨a, ha⟩ : ∃ a, sameL (txt s) nLen.data.toList = a := ⟨_, rfl⟩
  obtain ⟨b, hb⟩ : ∃ b, sameL (txt s) nCod.data.toList = b := ⟨_, rfl⟩
  obtain ⟨c, hc⟩ : ∃ c, sameL (txt s) nCon.data.toList = c := ⟨_, rfl⟩
  unfold ownL
  rw [ha, hb, hc]
  have HA := Lib.hid ha
  have HB := Lib.hid hb
  have HC := Lib.hid hc
  clear ha hb hc
  go_enter Tryz.func73, Tryz.ntmps73
  go_wp2_with fail
  refine (rSame_say (t := nLen) (r := a) HA hs (by decide) _).mono ?_
  rintro e w1 ⟨rfl, hs1⟩
  have H1 := Lib.hid hs1
  clear hs1
  cases a with
  | true =>
    go_wp2_with fail
    go_ret
    exact ⟨rfl, H1.out⟩
  | false =>
    go_wp2_with fail
    refine (rSame_say (t := nCod) (r := b) HB hs (by decide) _).mono ?_
    rintro e w2 ⟨rfl, hs2⟩
    have H2 := Lib.hid (H1.out.trans hs2 (fun _ _ h => h))
    clear hs2
    cases b with
    | true =>
      go_wp2_with fail
      go_ret
      exact ⟨rfl, H2.out⟩
    | false =>
      go_wp2_with fail
      refine (rSame_say (t := nCon) (r := c) HC hs (by decide) _).mono ?_
      rintro e w3 ⟨rfl, hs3⟩
      have H3 := Lib.hid (H2.out.trans hs3 (fun _ _ h => h))
      clear hs3
      go_wp2_with fail
      go_ret
      exact ⟨rfl, H3.out⟩
end Go.Proofs.YtiglfbimijnpcaaGreatDoor

namespace Go.Proofs.YtiglfbimijnpcaaGreatDoor
open Go.RowKit Go.Proofs

def fldMay (x : Fld) : Bool := isX x && !ownL (txt x.1)
/-- May a response be encoded? -/
def mayW (r : Rsp) : Bool := (decide (200 ≤ r.st) && decide (r.st ≤ 599)) && (decide (r.fs.length ≤ 24) && (r.fs.all fldMay && (partsOk r.body.length r.parts && (r.body.isEmpty || !noBodyB r.st))))
theorem ownL_say {s : ByteArray} {b : Bool} (h : Hid (ownL (txt s) = b)) (hs : s.size ≤ 1000000) (w : World) : Calls Tryz.prog 73 #[.string s] w fun e w' => e = .returned (.bool b) ∧ Sm No w w' := by
  rw [← h.out]; exact rOwn_any s hs w
def MayF (w1 : World) (fs : List Fld) (i : Value) (wr : World) : Prop := ∃ k : Nat, k ≤ fs.length ∧ i = .int .i64 k ∧ Sm No w1 wr ∧ (fs.take k).all fldMay = true
def MayP (w1 : World) (n : Nat) (ps : List Nat) (l i : Value) (wr : World) : Prop := ∃ k last : Nat, k ≤ ps.length ∧ i = .int .i64 k ∧ l = .int .i64 last ∧ last ≤ n ∧ Sm No w1 wr ∧ partsT n 0 ps = partsT n last (ps.drop k)
theorem mayW_st {r : Rsp} (h : ¬ (200 ≤ r.st ∧ r.st ≤ 599)) : mayW r = false := by
  unfold mayW
  cases h1 : decide (200 ≤ r.st) with
  | false => simp
  | true => cases h2 : decide (r.st ≤ 599) with
    | false => simp
    | true => exact absurd ⟨of_decide_eq_true h1, of_decide_eq_true h2⟩ h
theorem mayW_len {r : Rsp} (h : ¬ r.fs.length ≤ 24) : mayW r = false := by unfold mayW; rw [decide_eq_false h]; simp
theorem mayW_fs {r : Rsp} {x : Fld} (hx : x ∈ r.fs) (h : fldMay x = false) : mayW r = false := by
  have : r.fs.all fldMay = false := by
    rw [List.all_eq_false]
    exact ⟨x, hx, by rw [h]; decide⟩
  unfold mayW
  rw [this]
  simp
theorem mayW_parts {r : Rsp} (h : partsOk r.body.length r.parts = false) : mayW r = false := by unfold mayW; rw [h]; simp
theorem mayW_end {r : Rsp} (h1 : 200 ≤ r.st ∧ r.st ≤ 599) (h2 : r.fs.length ≤ 24) (h3 : r.fs.all fldMay = true) (h4 : partsOk r.body.length r.parts = true) : mayW r = (r.body.isEmpty || !noBodyB r.st) := by
  unfold mayW
  rw [decide_eq_true h1.1, decide_eq_true h1.2, decide_eq_true h2, h3, h4]
  simp
end Go.Proofs.YtiglfbimijnpcaaGreatDoor

namespace Go.Proofs.YtiglfbimijnpcaaGreatDoor
open Go.RowKit Go.Proofs

theorem partsT_at {n last k : Nat} {ps : List Nat} (h : k < ps.length) : partsT n last (ps.drop k) = if ps[k] ≤ last ∨ n < ps[k] then none else partsT n ps[k] (ps.drop (k + 1)) := by
  rw [List.drop_eq_getElem_cons h]
  rfl
theorem partsOk_none {n : Nat} {ps : List Nat} (h : partsT n 0 ps = none) : partsOk n ps = false := by unfold partsOk; rw [h]
theorem partsOk_some {n last : Nat} {ps : List Nat} (h : partsT n 0 ps = some last) : partsOk n ps = (ps.isEmpty || last == n) := by unfold partsOk; rw [h]
set_option maxRecDepth 100000 in
set_option maxHeartbeats 16000000 in
theorem rMay_any (w : World) (r : Rsp) (A1 A2 A3 : Option Addr) (c1 c2 c3 : Nat) (hF : FRow w A1 r.fs) (hP : RowC w A3 (intsV r.parts)) (hs : Short r.fs) (hb : r.body.length ≤ 1000000) (hp : r.parts.length ≤ 1000000) (hfl : r.fs.length ≤ 1000000) (hpp : ∀ n ∈ r.parts, n ≤ 1000000) (hst : -1000000 ≤ r.st ∧ r.st ≤ 1000000) :
    Calls Tryz.prog 33 #[.agg #[.int .i64 r.st, .slice A1 r.fs.length c1, .slice A2 r.body.length c2, .slice A3 r.parts.length c3]] w fun e w' => e = .returned (.bool (mayW r)) ∧ Sm No w w' := by
  obtain ⟨R, hR⟩ : ∃ R, mayW r = R := ⟨_, rfl⟩
  rw [hR]
  obtain ⟨st, fs, body, parts⟩ := r
  dsimp only at *
  have HR := Lib.hid hR
  have H := Lib.hid (And.intro hF (And.intro hP (And.intro hs hpp)))
  clear hR hF hP hs hpp
  obtain ⟨m, hm⟩ : ∃ m, body.length = m := ⟨_, rfl⟩
  have HM := Lib.hid hm
  rw [hm] at hb ⊢
  clear hm
  obtain ⟨hst1, hst2⟩ := hst
  go_enter Tryz.func33, Tryz.ntmps33
  by_cases hlo : st < 200
  · have HE := Lib.hid (show R = false from by rw [← HR.out]; exact mayW_st (fun h => by have h := h.1; dsimp only at h; omega))
    have d1 : decide (st < 200) = true := decide_eq_true hlo
    go_wp2_with fail
    go_ret
    exact ⟨by rw [HE.out]; rfl, (Sm.refl No w).alloc _⟩
  have d1 : decide (st < 200) = false := decide_eq_false hlo
  by_cases hhi : 599 < st
  · have HE := Lib.hid (show R = false from by rw [← HR.out]; exact mayW_st (fun h => by have h := h.2; dsimp only at h; omega))
    have d2 : decide (599 < st) = true := decide_eq_true hhi
    go_wp2_with fail
    go_ret
    exact ⟨by rw [HE.out]; rfl, (Sm.refl No w).alloc _⟩
  have d2 : decide (599 < st) = false := decide_eq_false hhi
  by_cases hln : 24 < fs.length
  · have HE := Lib.hid (show R = false from by rw [← HR.out]; exact mayW_len (fun h => by dsimp only at h; omega))
    have i1 : (24 : Int) < (fs.length : Int) := by omega
    clear hln
    go_wp2_with fail
    go_ret
    exact ⟨by rw [HE.out]; rfl, (Sm.refl No w).alloc _⟩
  have i1 : ¬ (24 : Int) < (fs.length : Int) := by omega
  have HL := Lib.hid hln
  clear hln
  go_wp2_with fail
  obtain ⟨r0, hr0⟩ : ∃ r0, w.heap.size = r0 := ⟨_, rfl⟩
  obtain ⟨w1, hw1⟩ : ∃ w1, w.alloc (.cells #[.int .i64 st, .slice A1 fs.length c1, .slice A2 m c2, .slice A3 parts.length c3] 52) = w1 := ⟨_, rfl⟩
  have hb1 : Bk w1 r0 52 #[.int .i64 st, .slice A1 fs.length c1, .slice A2 m c2, .slice A3 parts.length c3] := by rw [← hw1, ← hr0]; exact Bk.new w _ _
  have hs1 : Sm No w w1 := by rw [← hw1]; exact (Sm.refl No w).alloc _
  rw [hr0, hw1]
  have H1 := Lib.hid (And.intro hs1 hb1)
  clear hs1 hb1 hw1 hr0
  go_loopw [3] (fun i wr => MayF w1 fs i wr) (fun i _ => fs.length - (intOf i).toNat)
  case atStart => exact ⟨0, Nat.zero_le _, rfl, Sm.refl _ _, by simp⟩
  case round =>
    obtain ⟨k, hk, rfl, hs, hall⟩ := hrel
    have HS := Lib.hid (And.intro (H1.out.1.trans hs (fun _ _ h => h)) (And.intro (H1.out.2.sm hs (fun h => h)) (And.intro hs hall)))
    clear hs hall
    have q1 := HS.out.2.1.at 1 (v := .slice A1 fs.length c1) rfl
    have ql := HS.out.2.1.lt
    by_cases hlt : k < fs.length
    · obtain ⟨bb, off, hAe, hbb, e0, e1⟩ := (H.out.1.no HS.out.1) k hlt
      obtain ⟨s1, s2⟩ := H.out.2.2.1 fs[k] (List.getElem_mem hlt)
      subst hAe
      obtain ⟨nm, hnm⟩ : ∃ x, fs[k].1 = x := ⟨_, rfl⟩
      obtain ⟨vl, hvl⟩ : ∃ x, fs[k].2 = x := ⟨_, rfl⟩
      rw [hnm] at e0 s1
      rw [hvl] at e1 s2
      obtain ⟨bx, hbx⟩ : ∃ b, isF nm.data.toList vl.data.toList = b := ⟨_, rfl⟩
      obtain ⟨bo, hbo⟩ : ∃ b, ownL (txt nm) = b := ⟨_, rfl⟩
      have hfm : fldMay fs[k] = (bx && !bo) := by
        unfold fldMay isX
        rw [hnm, hvl, hbx, hbo]
      have HBX := Lib.hid hbx
      have HBO := Lib.hid hbo
      have HFM := Lib.hid hfm
      have HMem := Lib.hid (List.getElem_mem hlt)
      have k1 : (0 : Int) ≤ (k : Int) := by omega
      have k2 : (k : Int) < (fs.length : Int) := by omega
      have HNm := Lib.hid hnm
      clear hnm hvl hbx hbo hfm
      go_wp2_with fail
      refine (rIs_say HBX s1 s2 _).mono ?_
      rintro e w2 ⟨rfl, hs2⟩
      have hb2 := HS.out.2.1.sm hs2 (fun h => h)
      have H2 := Lib.hid (And.intro (HS.out.1.trans hs2 (fun _ _ h => h)) (And.intro hb2 (HS.out.2.2.1.trans hs2 (fun _ _ h => h))))
      obtain ⟨bb', off', hAe, hbb', e0', e1'⟩ := (H.out.1.no H2.out.1) k hlt
      injection hAe with hAe; injection hAe with g1 g2; subst g1 g2
      rw [HNm.out] at e0'
      have q1' := hb2.at 1 (v := .slice (some ⟨bb, off, none⟩) fs.length c1) rfl
      have ql' := hb2.lt
      clear q1 ql hbb e0 e1 e1' hs2 hb2
      cases bx with
      | false =>
        have HE := Lib.hid (show R = false from by rw [← HR.out]; exact mayW_fs HMem.out (by rw [HFM.out]; rfl))
        go_wp2_with fail
        go_ret
        exact ⟨by rw [HE.out]; rfl, H2.out.1⟩
      | true =>
        go_wp2_with fail
        refine (ownL_say HBO s1 _).mono ?_
        rintro e w3 ⟨rfl, hs3⟩
        have H3 := Lib.hid (And.intro (H2.out.1.trans hs3 (fun _ _ h => h)) (H2.out.2.2.trans hs3 (fun _ _ h => h)))
        clear hs3 q1' ql' hbb' e0'
        cases bo with
        | true =>
          have HE := Lib.hid (show R = false from by rw [← HR.out]; exact mayW_fs HMem.out (by rw [HFM.out]; rfl))
          go_wp2_with fail
          go_ret
          exact ⟨by rw [HE.out]; rfl, H3.out.1⟩
        | false =>
          go_wp2_with fail
          refine ⟨⟨k + 1, by omega, by go_num, H3.out.2, ?_⟩, by simp [intOf]; omega⟩
          rw [List.take_add_one, List.getElem?_eq_getElem hlt, List.all_append, HS.out.2.2.2]
          simp [HFM.out]
    · obtain rfl : k = fs.length := by omega
      have hallT : fs.all fldMay = true := by
        have h := HS.out.2.2.2
        rwa [List.take_length] at h
      have HA := Lib.hid hallT
      clear hallT
      go_wp2_with fail
      go_loopw [4, 5] (fun l i wr => MayP w1 m parts l i wr) (fun _ i _ => parts.length - (intOf i).toNat)
      case atStart => exact ⟨0, 0, Nat.zero_le _, rfl, rfl, Nat.zero_le _, HS.out.2.2.1, by simp⟩
      case round =>
        obtain ⟨k, last, hk, rfl, rfl, hlm, hs, hpt⟩ := hrel
        have HT := Lib.hid (And.intro (H1.out.1.trans hs (fun _ _ h => h)) (And.intro (H1.out.2.sm hs (fun h => h)) (And.intro hs hpt)))
        have q0 := HT.out.2.1.at 0 (v := .int .i64 st) rfl
        have q2 := HT.out.2.1.at 2 (v := .slice A2 m c2) rfl
        have q3 := HT.out.2.1.at 3 (v := .slice A3 parts.length c3) rfl
        have ql3 := HT.out.2.1.lt
        clear hs hpt q1 ql
        by_cases hlt : k < parts.length
        · have e1 : (intsV parts)[k]? = some (.int .i64 (parts[k] : Int)) := by simp [intsV, hlt]
          obtain ⟨b1, o1, hA1, hb1, e0⟩ := (H.out.2.1.no HT.out.1).at e1
          subst hA1
          have HPT := Lib.hid (partsT_at (n := m) (last := last) hlt)
          have hp9 := H.out.2.2.2 _ (List.getElem_mem hlt)
          obtain ⟨p, hpe⟩ : ∃ p, parts[k] = p := ⟨_, rfl⟩
          rw [hpe] at HPT e0 hp9
          have k1 : (0 : Int) ≤ (k : Int) := by omega
          have k2 : (k : Int) < (parts.length : Int) := by omega
          clear hpe e1
          by_cases g1 : p ≤ last
          · have j1 : (p : Int) ≤ (last : Int) := by omega
            have jd : decide ((p : Int) ≤ (last : Int)) = true := decide_eq_true j1
            have jn : decide (p ≤ last) = true := decide_eq_true g1
            have HE := Lib.hid (show R = false from by
              rw [← HR.out]
              refine mayW_parts ?_
              show partsOk body.length parts = false
              rw [HM.out]
              exact partsOk_none (by rw [HT.out.2.2.2, HPT.out, if_pos (Or.inl g1)]))
            go_wp2_with fail
            go_quiet (fail)
            go_wp2_with fail
            go_ret
            exact ⟨by rw [HE.out]; rfl, HT.out.1.drewN _⟩
          · have j1 : ¬ (p : Int) ≤ (last : Int) := by omega
            have jd : decide ((p : Int) ≤ (last : Int)) = false := decide_eq_false j1
            have jn : decide (p ≤ last) = false := decide_eq_false g1
            by_cases g2 : m < p
            · have j2 : (m : Int) < (p : Int) := by omega
              have HE := Lib.hid (show R = false from by
                rw [← HR.out]
                refine mayW_parts ?_
                show partsOk body.length parts = false
                rw [HM.out]
                exact partsOk_none (by rw [HT.out.2.2.2, HPT.out, if_pos (Or.inr g2)]))
              go_wp2_with fail
              go_quiet (fail)
              go_wp2_with fail
              go_ret
              exact ⟨by rw [HE.out]; rfl, HT.out.1.drewN _⟩
            · have j2 : ¬ (m : Int) < (p : Int) := by omega
              have HE := Lib.hid (show partsT m 0 parts = partsT m p (parts.drop (k + 1)) from by rw [HT.out.2.2.2, HPT.out, if_neg (by omega)])
              have hpm : p ≤ m := by omega
              go_wp2_with fail
              go_quiet (fail)
              go_wp2_with fail
              exact ⟨⟨k + 1, p, by omega, by go_num, rfl, hpm, HT.out.2.2.1.drewN _, HE.out⟩, by simp [intOf]; omega⟩
        · obtain rfl : k = parts.length := by omega
          have HPE := Lib.hid (show partsOk m parts = (parts.isEmpty || last == m) from by
            refine partsOk_some ?_
            rw [HT.out.2.2.2, List.drop_of_length_le (Nat.le_refl _)]
            rfl)
          have HEnd := Lib.hid (fun (h : partsOk m parts = true) => show R = (body.isEmpty || !noBodyB st) from by
            rw [← HR.out]
            exact mayW_end (r := ⟨st, fs, body, parts⟩) ⟨by show 200 ≤ st; omega, by show st ≤ 599; omega⟩ (by show fs.length ≤ 24; have := HL.out; omega) HA.out (by show partsOk body.length parts = true; rw [HM.out]; exact h))
          have HNo := Lib.hid (fun (h : partsOk m parts = false) => show R = false from by
            rw [← HR.out]
            exact mayW_parts (by show partsOk body.length parts = false; rw [HM.out]; exact h))
          have hend : ∀ wx : World, Sm No w wx → True := fun _ _ => trivial
          clear hend
          by_cases g1 : 0 < parts.length
          · have j1 : (0 : Int) < (parts.length : Int) := by omega
            have hne : parts.isEmpty = false := by
              cases parts with
              | nil => exact absurd g1 (by decide)
              | cons a b => rfl
            by_cases g2 : last = m
            · have HE := Lib.hid (HEnd.out (by rw [HPE.out, g2]; simp))
              have j2 : ((last : Int) == (m : Int)) = true := by rw [g2]; simp
              have j3 : (last : Int) = (m : Int) := by omega
              have j6 : ((last : Int) != (m : Int)) = false := by rw [g2]; simp
              clear g1 g2 hne
              by_cases gm : m = 0
              · have HB := Lib.hid (show R = true from by
                  rw [HE.out]
                  have hb0 : body = [] := List.eq_nil_of_length_eq_zero (by rw [HM.out]; exact gm)
                  rw [hb0]
                  rfl)
                have j4 : ((m : Int) == 0) = true := by rw [gm]; rfl
                have j5 : (m : Int) = 0 := by rw [gm]; rfl
                clear gm
                go_wp2_with fail
                go_ret
                exact ⟨by rw [HB.out]; rfl, HT.out.1⟩
              · have HB := Lib.hid (show R = !noBodyB st from by
                  rw [HE.out]
                  have hb0 : body.isEmpty = false := by
                    cases body with
                    | nil => exact absurd HM.out.symm gm
                    | cons a b => rfl
                  rw [hb0]
                  rfl)
                have j4 : ((m : Int) == 0) = false := by rw [beq_eq_false_iff_ne]; omega
                have j5 : ¬ (m : Int) = 0 := by omega
                clear gm
                go_wp2_with fail
                refine (rNoBody_any _ st).mono ?_
                rintro e w5 ⟨rfl, hw5⟩
                obtain ⟨nb, hnb⟩ : ∃ nb, noBodyB st = nb := ⟨_, rfl⟩
                rw [hnb] at HB ⊢
                subst hw5
                clear hnb
                go_wp2_with fail
                go_ret
                exact ⟨by rw [HB.out]; rfl, HT.out.1⟩
            · have HE := Lib.hid (HNo.out (by rw [HPE.out, hne]; simp [g2]))
              have j2 : ((last : Int) == (m : Int)) = false := by
                rw [beq_eq_false_iff_ne]; omega
              have j3 : ¬ (last : Int) = (m : Int) := by omega
              clear g1 g2 hne
              go_wp2_with fail
              go_ret
              exact ⟨by rw [HE.out]; rfl, HT.out.1⟩
          · have j1 : ¬ (0 : Int) < (parts.length : Int) := by omega
            have HE := Lib.hid (HEnd.out (by
              rw [HPE.out]
              cases parts with
              | nil => rfl
              | cons a b => exact absurd (Nat.succ_pos _) g1))
            clear g1
            by_cases gm : m = 0
            · have HB := Lib.hid (show R = true from by
                rw [HE.out]
                have hb0 : body = [] := List.eq_nil_of_length_eq_zero (by rw [HM.out]; exact gm)
                rw [hb0]
                rfl)
              have j4 : ((m : Int) == 0) = true := by rw [gm]; rfl
              have j5 : (m : Int) = 0 := by rw [gm]; rfl
              clear gm
              go_wp2_with fail
              go_ret
              exact ⟨by rw [HB.out]; rfl, HT.out.1⟩
            · have HB := Lib.hid (show R = !noBodyB st from by
                rw [HE.out]
                have hb0 : body.isEmpty = false := by
                  cases body with
                  | nil => exact absurd HM.out.symm gm
                  | cons a b => rfl
                rw [hb0]
                rfl)
              have j4 : ((m : Int) == 0) = false := by rw [beq_eq_false_iff_ne]; omega
              have j5 : ¬ (m : Int) = 0 := by omega
              clear gm
              go_wp2_with fail
              refine (rNoBody_any _ st).mono ?_
              rintro e w5 ⟨rfl, hw5⟩
              obtain ⟨nb, hnb⟩ : ∃ nb, noBodyB st = nb := ⟨_, rfl⟩
              rw [hnb] at HB ⊢
              subst hw5
              clear hnb
              go_wp2_with fail
              go_ret
              exact ⟨by rw [HB.out]; rfl, HT.out.1⟩
end Go.Proofs.YtiglfbimijnpcaaGreatDoor

namespace Go.Proofs.YtiglfbimijnpcaaGreatDoor
open Go.RowKit Go.Proofs

def crlfT : Txt := [13, 10]
def sH11 : Txt := [72, 84, 84, 80, 47, 49, 46, 49, 32]
def sChd : Txt := [84, 114, 97, 110, 115, 102, 101, 114, 45, 69, 110, 99, 111, 100, 105, 110, 103, 58, 32, 99, 104, 117, 110, 107, 101, 100]
def sCln : Txt := [67, 111, 110, 116, 101, 110, 116, 45, 76, 101, 110, 103, 116, 104, 58, 32]
def sClo : Txt := [67, 111, 110, 110, 101, 99, 116, 105, 111, 110, 58, 32, 99, 108, 111, 115, 101]
def sKpa : Txt := [67, 111, 110, 110, 101, 99, 116, 105, 111, 110, 58, 32, 107, 101, 101, 112, 45, 97, 108, 105, 118, 101]
def sEnd : Txt := [48, 13, 10, 13, 10]
def stT (c : Int) : Txt := sH11 ++ (Lib.itoa c ++ (32 :: (phraseT c ++ crlfT)))
def fldT (x : Fld) : Txt := txt x.1 ++ (58 :: 32 :: (txt x.2 ++ crlfT))
def fldsT (l : List Fld) : Txt := (l.map fldT).flatten
def chdB (r : Rsp) (minor : Int) : Bool := !r.parts.isEmpty && decide (0 < minor)
def codF (r : Rsp) (minor : Int) : Txt := if noBodyB r.st = true then [] else if chdB r minor = true then sChd ++ crlfT else sCln ++ (Lib.itoa r.body.length ++ crlfT)
def conT (minor : Int) (close : Bool) : Txt := if close = true then sClo ++ crlfT else if minor < 1 then sKpa ++ crlfT else []
def headT (r : Rsp) (minor : Int) (close : Bool) : Txt := stT r.st ++ (fldsT r.fs ++ (codF r minor ++ (conT minor close ++ crlfT)))
def chunkT (p : Txt) : Txt := if p = [] then [] else digL 16 p.length ++ (crlfT ++ (p ++ crlfT))
def chunksT (l : List Txt) : Txt := (l.map chunkT).flatten ++ sEnd
/-- A text cut at places that go up. -/
def cutP (b : Txt) : Nat → List Nat → List Txt
  | _, [] => []
  | f, p :: l => (b.take p).drop f :: cutP b p l
def bodyT (r : Rsp) (head : Bool) (minor : Int) : Txt := if head = true then [] else if chdB r minor = true then chunksT (cutP r.body 0 r.parts) else r.body
def encT (r : Rsp) (head : Bool) (minor : Int) (close : Bool) : Txt := headT r minor close ++ bodyT r head minor
def encC (r : Rsp) (head : Bool) (minor : Int) (close : Bool) : Int := if mayW r = false then 1 else if 65536 < (encT r head minor close).length then 9 else 0
theorem encC_may {r : Rsp} {head close : Bool} {minor : Int} (h : mayW r = false) : encC r head minor close = 1 := by unfold encC; rw [if_pos h]
theorem encC_9 {r : Rsp} {head close : Bool} {minor : Int} (h : mayW r = true) (hl : 65536 < (encT r head minor close).length) : encC r head minor close = 9 := by unfold encC; rw [if_neg (by rw [h]; decide), if_pos hl]
theorem encC_0 {r : Rsp} {head close : Bool} {minor : Int} (h : mayW r = true) (hl : (encT r head minor close).length ≤ 65536) : encC r head minor close = 0 := by unfold encC; rw [if_neg (by rw [h]; decide), if_neg (by omega)]
theorem fldsT_snoc {l : List Fld} {k : Nat} (h : k < l.length) : fldsT (l.take (k + 1)) = fldsT (l.take k) ++ fldT l[k] := by
  unfold fldsT
  rw [List.take_add_one, List.getElem?_eq_getElem h, List.map_append, List.flatten_append]
  simp
theorem fldsT_take (l : List Fld) (k : Nat) : (fldsT (l.take k)).length ≤ (fldsT l).length := by
  have h : fldsT l = fldsT (l.take k) ++ fldsT (l.drop k) := by
    unfold fldsT
    rw [← List.flatten_append, ← List.map_append, List.take_append_drop]
  rw [h, List.length_append]
  omega
theorem encT_flds (r : Rsp) (head close : Bool) (minor : Int) (k : Nat) : (stT r.st ++ fldsT (r.fs.take k)).length ≤ (encT r head minor close).length := by
  have := fldsT_take r.fs k
  unfold encT headT
  simp only [List.length_append] at *
  omega
theorem encT_body (r : Rsp) (head close : Bool) (minor : Int) : (encT r head minor close).length = (headT r minor close).length + (bodyT r head minor).length := by unfold encT; rw [List.length_append]
theorem partsT_le {n : Nat} : ∀ {l : List Nat} {f m : Nat}, partsT n f l = some m → f ≤ n → m ≤ n ∧ f ≤ m ∧ ∀ p ∈ l, p ≤ n ∧ f < p
  | [], f, m, h, hf => by
    injection h with h
    subst h
    exact ⟨hf, Nat.le_refl _, fun p hp => by cases hp⟩
  | p :: l, f, m, h, hf => by
    unfold partsT at h
    by_cases hc : p ≤ f ∨ n < p
    · rw [if_pos hc] at h; cases h
    · rw [if_neg hc] at h
      obtain ⟨h1, h2, h3⟩ := partsT_le h (by omega)
      refine ⟨h1, by omega, fun q hq => ?_⟩
      rcases List.mem_cons.1 hq with rfl | hq
      · omega
      · have := h3 q hq; omega
theorem codF_len (r : Rsp) (minor : Int) (h : r.body.length ≤ 1000000) : (codF r minor).length ≤ 40 := by
  have := itoa_len (c := (r.body.length : Int)) (by omega) (by omega)
  unfold codF
  split
  · simp
  · split
    · simp only [List.length_append]
      have : sChd.length = 26 := rfl
      have : crlfT.length = 2 := rfl
      omega
    · simp only [List.length_append]
      have : sCln.length = 16 := rfl
      have : crlfT.length = 2 := rfl
      omega
theorem conT_len (minor : Int) (close : Bool) : (conT minor close).length ≤ 24 := by
  unfold conT
  split
  · decide
  · split
    · decide
    · decide
theorem digL_len (m : Nat) : (digL 16 m).length ≤ m + 1 := by
  induction m using Nat.strongRecOn with
  | _ m ih =>
    by_cases h : m < 16
    · rw [digL_small h]; simp
    · rw [digL_step h (by omega), List.length_append]
      have h1 := ih (m / 16) (by omega)
      have : [hexC (m % 16)].length = 1 := rfl
      omega
theorem chunk_len (p : Txt) : (chunkT p).length ≤ 2 * p.length + 5 := by
  unfold chunkT
  split
  · simp
  · simp only [List.length_append]
    have := digL_len p.length
    have : crlfT.length = 2 := rfl
    omega
theorem cuts_len (b : Txt) {n : Nat} : ∀ (l : List Nat) (f m : Nat), partsT n f l = some m → ((cutP b f l).map chunkT).flatten.length + 7 * f ≤ 7 * m
  | [], f, m, h => by
    injection h with h
    subst h
    simp [cutP]
  | p :: l, f, m, h => by
    unfold partsT at h
    by_cases hc : p ≤ f ∨ n < p
    · rw [if_pos hc] at h; cases h
    · rw [if_neg hc] at h
      have h1 := cuts_len b l p m h
      have h2 := chunk_len ((b.take p).drop f)
      have h3 : ((b.take p).drop f).length ≤ p - f := by
        rw [List.length_drop, List.length_take]
        omega
      unfold cutP
      rw [List.map_cons, List.flatten_cons, List.length_append]
      omega
/-- The slices that the pieces of a row are. -/
def cutV (bb off c : Nat) : Nat → List Nat → List Value
  | _, [] => []
  | f, p :: l => .slice (some ⟨bb, off + f, none⟩) (p - f) (c - f) :: cutV bb off c p l
theorem cutV_len (bb off c : Nat) (b : Txt) : ∀ (l : List Nat) (f : Nat), (cutV bb off c f l).length = l.length ∧ (cutP b f l).length = l.length
  | [], _ => ⟨rfl, rfl⟩
  | p :: l, f => ⟨by show _ + 1 = _ + 1; rw [(cutV_len bb off c b l p).1], by show _ + 1 = _ + 1; rw [(cutV_len bb off c b l p).2]⟩
theorem rowC_cut {w : World} {bb off f p : Nat} {b : Txt} (h : RowC w (some ⟨bb, off, none⟩) (byteV b)) : RowC w (some ⟨bb, off + f, none⟩) (byteV ((b.take p).drop f)) := by
  intro j u hj
  have hj2 : (byteV b)[f + j]? = some u := by
    unfold byteV at hj ⊢
    rw [List.getElem?_map] at hj ⊢
    rw [List.getElem?_drop, List.getElem?_take] at hj
    split at hj
    · exact hj
    · cases hj
  obtain ⟨b1, o1, e, h1, h2⟩ := h (f + j) u hj2
  injection e with e
  injection e with e1 e2
  subst e1 e2
  exact ⟨_, _, rfl, h1, by rw [← h2]; congr 1; rw [Nat.add_assoc]⟩
theorem cut_rows {w : World} {bb off c : Nat} {b : Txt} (h : RowC w (some ⟨bb, off, none⟩) (byteV b)) : ∀ (l : List Nat) (f m : Nat), partsT b.length f l = some m → ∀ j, (hj : j < (cutP b f l).length) → ∃ o' c', (cutV bb off c f l)[j]? = some (.slice (some ⟨bb, o', none⟩) (cutP b f l)[j].length c') ∧ RowC w (some ⟨bb, o', none⟩) (byteV (cutP b f l)[j])
  | [], f, m, _, j, hj => absurd hj (Nat.not_lt_zero _)
  | p :: l, f, m, hm, j, hj => by
    unfold partsT at hm
    by_cases hc : p ≤ f ∨ b.length < p
    · rw [if_pos hc] at hm; cases hm
    · rw [if_neg hc] at hm
      cases j with
      | zero =>
        refine ⟨off + f, c - f, ?_, rowC_cut h⟩
        have e : ((b.take p).drop f).length = p - f := by rw [List.length_drop, List.length_take]; omega
        show some _ = some (Value.slice _ ((b.take p).drop f).length _)
        rw [e]
      | succ j => exact cut_rows h l p m hm j (by simpa [cutP] using hj)
theorem drop_cons {α : Type} {l r : List α} {x : α} {k : Nat} (h : l.drop k = x :: r) : l.take (k + 1) = l.take k ++ [x] ∧ l.drop (k + 1) = r := by
  have h1 : l[k]? = some x := by
    have := congrArg (fun m => m[0]?) h
    simpa using this
  refine ⟨by rw [List.take_add_one, h1]; rfl, ?_⟩
  rw [← List.drop_drop, h]
  rfl
end Go.Proofs.YtiglfbimijnpcaaGreatDoor

namespace Go.Proofs.YtiglfbimijnpcaaGreatDoor
open Go.RowKit Go.Proofs

/-- The twin's HexText. -/
theorem rHexText_any (w : World) (n : Nat) (h1 : n ≤ 1000000) :
    Calls Tryz.prog 75 #[.int .i64 n] w fun e w' => e = .returned (strV (digL 16 n)) ∧ Sm No w w' := by
  have e : digL 16 (max 0 (n : Int)).toNat = digL 16 n := by rw [show (max 0 (n : Int)).toNat = n by omega]
  have HT := Lib.hid (e ▸ rText_any w n 16 (Or.inr rfl) (by omega) (by omega))
  clear e
  go_enter Tryz.func75, Tryz.ntmps75
  go_wp2_with fail
  refine HT.out.mono ?_
  rintro e w1 ⟨rfl, hs⟩
  have HS := Lib.hid hs
  clear hs
  go_wp2_with fail
  go_ret
  exact ⟨rfl, HS.out⟩
/-- A row of rows of bytes. -/
def PartsAt (w : World) (A : Option Addr) (ls : List Txt) : Prop :=
  ∀ j, (h : j < ls.length) → ∃ bb off A' c', A = some ⟨bb, off, none⟩ ∧ bb < w.heap.size ∧ w.cell? ⟨bb, off + j, none⟩ = some (.slice A' ls[j].length c') ∧ RowC w A' (byteV ls[j]) ∧ (A' = none → ls[j].length = 0 ∧ c' = 0)
theorem PartsAt.no {w w' : World} {A : Option Addr} {ls : List Txt} (h : PartsAt w A ls) (hs : Sm No w w') : PartsAt w' A ls := by
  intro j hj
  obtain ⟨bb, off, A', c', h1, h2, h3, h4, h5⟩ := h j hj
  exact ⟨bb, off, A', c', h1, Nat.lt_of_lt_of_le h2 hs.size, hs.keep h2 (fun h => h) h3, h4.no hs, h5⟩
section
variable {ops : Array Oper} {rest : List Oper} {o : Oper} {a : Act} {w : World} {Q : Exit → Act → World → Prop}
/-- x = append(x, s...), s a text. -/
theorem put_str (hgd : o.guard = none) (s x : Operand) (ho : o.op = .call { callee := .builtin .append, args := #[s, x], argTypes := #[23, 9] })
    (B : Nat) (hB : B ≤ w.heap.size) (b : ByteArray) (v : Value) (l : Txt) (hs : a.eval s = v) (hO : OwnQ w B v l) (hx : a.eval x = .string b) (hl : l.length + b.size ≤ 1000000)
    (h : ∀ v' w', OwnQ w' B v' (l ++ txt b) → Sm (fun b => v.ownBlock = some b) w w' → wpList Tryz.prog ops Q rest (a.put o.dst v') w') :
    wpList Tryz.prog ops Q (o :: rest) a w := by
  obtain ⟨i0, hi0, hz0, hz1, hz2⟩ := info_parts infoU8
  refine Lib.wpList_append_own_string w hgd s x 23 9 ho B 5 i0 Tryz.underlying23 Tryz.underlying9 hi0 hz0 hz1 hz2 v l.length (l.map byteQ) hs hO b hx (by unfold maxLen; omega) (by omega) hB ?_
  intro v' w' h1 h2 _
  refine h v' w' ?_ ((Sm.refl _ w).grown h2 (fun k hk => Or.inl hk))
  have e : (l ++ txt b).length = l.length + b.size := by rw [List.length_append, txt_len]
  show w'.ownsRow B 5 1 v' (l ++ txt b).length ((l ++ txt b).map byteQ)
  rw [e, List.map_append]
  exact h1
end
theorem OwnQ.push2 {w : World} {B : Nat} {v : Value} {l m : Txt} (h : w.ownsRow B 5 1 v (l.length + m.length) (l.map byteQ ++ byteV m)) : OwnQ w B v (l ++ m) := by
  show w.ownsRow B 5 1 v (l ++ m).length ((l ++ m).map byteQ)
  rw [List.length_append, List.map_append]
  exact h
theorem own_new {w0 w w' : World} {B : Nat} {v : Value} {l : Txt} (h0 : Sm No w0 w) (hO : OwnQ w B v l) (hB : w0.heap.size ≤ B) (hs : Sm (fun b => v.ownBlock = some b) w w') : Sm No w0 w' :=
  h0.trans hs (fun b hb e => by have := (World.ownsRow.lt hO b e).1; omega)
def ChR (w0 : World) (ls : List Txt) (bv iv : Value) (wr : World) : Prop := ∃ (k : Nat) (v : Value), k ≤ ls.length ∧ v = bv ∧ iv = .int .i64 k ∧ OwnQ wr w0.heap.size v ((ls.take k).map chunkT).flatten ∧ Sm No w0 wr
theorem chunks_take (ls : List Txt) (k : Nat) : ((ls.take k).map chunkT).flatten.length ≤ (chunksT ls).length := by
  have h : (ls.map chunkT).flatten = ((ls.take k).map chunkT).flatten ++ ((ls.drop k).map chunkT).flatten := by
    rw [← List.flatten_append, ← List.map_append, List.take_append_drop]
  unfold chunksT
  rw [h, List.length_append, List.length_append]
  omega
theorem chunks_step {ls : List Txt} {k : Nat} (h : k < ls.length) : ((ls.take (k + 1)).map chunkT).flatten = ((ls.take k).map chunkT).flatten ++ chunkT ls[k] := by
  rw [List.take_add_one, List.getElem?_eq_getElem h, List.map_append, List.flatten_append]
  simp
set_option maxRecDepth 100000 in
set_option maxHeartbeats 16000000 in
theorem rEncode14_any (w : World) (A : Option Addr) (c : Nat) (ls : List Txt) (hA : PartsAt w A ls) (hl : ls.length ≤ 1000000) (hz : (chunksT ls).length ≤ 900000) :
    Calls Tryz.prog 37 #[.slice A ls.length c] w fun e w' => ∃ v, e = .returned v ∧ OwnQ w' w.heap.size v (chunksT ls) ∧ Sm No w w' := by
  have HA := Lib.hid hA
  have HZ := Lib.hid (fun k => Nat.le_trans (chunks_take ls k) hz)
  have HZ0 := Lib.hid hz
  clear hA hz
  go_enter Tryz.func37, Tryz.ntmps37
  go_wp2_with fail
  go_loopw [3, 4] (fun bv iv wr => ChR w ls bv iv wr) (fun _ iv _ => ls.length - (intOf iv).toNat)
  case atStart => exact ⟨0, _, Nat.zero_le _, rfl, rfl, OwnQ.nil _ _, Sm.refl _ _⟩
  case round =>
    obtain ⟨k, bv, hk, rfl, rfl, hO, hs⟩ := hrel
    have HS := Lib.hid hs
    have HO := Lib.hid hO
    clear hs hO
    by_cases hlt : k < ls.length
    · obtain ⟨bb, off, A', c', hAe, hbb, e0, hR, hn⟩ := (HA.out.no HS.out) k hlt
      subst hAe
      have hz1 := HZ.out (k + 1)
      have hst := chunks_step hlt
      obtain ⟨p, hp⟩ : ∃ p, ls[k] = p := ⟨_, rfl⟩
      have HPE := Lib.hid hp
      rw [hp] at e0 hR hn hst
      have HST := Lib.hid hst
      have HP := Lib.hid (And.intro hR hn)
      rw [hst, List.length_append] at hz1
      have HZ1 := Lib.hid hz1
      have k1 : (0 : Int) ≤ (k : Int) := by omega
      have k2 : (k : Int) < (ls.length : Int) := by omega
      clear hp hR hn hst hz1
      by_cases h0 : 0 < p.length
      · have i1 : (0 : Int) < (p.length : Int) := by omega
        have hne : p ≠ [] := fun e => by rw [e] at h0; exact absurd h0 (by decide)
        have HCH := Lib.hid (show chunkT p = digL 16 p.length ++ (crlfT ++ (p ++ crlfT)) from by unfold chunkT; rw [if_neg hne])
        have hcl : (chunkT p).length = (digL 16 p.length).length + p.length + 4 := by
          rw [HCH.out]
          simp only [List.length_append]
          have : crlfT.length = 2 := rfl
          omega
        have hz2 := HZ1.out
        rw [hcl] at hz2
        have HZ2 := Lib.hid hz2
        have hpl : p.length ≤ 1000000 := by omega
        clear h0 hne hcl hz2
        obtain ⟨D, hD⟩ : ∃ D : ByteArray, (⟨(digL 16 p.length).toArray⟩ : ByteArray) = D := ⟨_, rfl⟩
        have hDt : txt D = digL 16 p.length := by rw [← hD]; simp [txt]
        have hDz : D.size ≤ 900000 := by
          have := txt_len D
          rw [hDt] at this
          have := HZ2.out
          omega
        have HHex := Lib.hid (rHexText_any wr p.length hpl)
        unfold strV at HHex
        rw [hD] at HHex
        have HD := Lib.hid (show txt (D ++ ⟨#[13, 10]⟩) = digL 16 p.length ++ crlfT from by rw [← hDt]; simp [txt, crlfT])
        have HDZ := Lib.hid (show (digL 16 p.length).length = D.size from by rw [← hDt, txt_len])
        clear hD hDt
        go_wp2_with fail
        refine HHex.out.mono ?_
        rintro e w2 ⟨rfl, hs2⟩
        have H2 := Lib.hid (And.intro (own_row_sm HO.out hs2 (fun _ _ e => e)) (HS.out.trans hs2 (fun _ _ h => h)))
        obtain ⟨L, hL⟩ : ∃ L, ((ls.take k).map chunkT).flatten = L := ⟨_, rfl⟩
        rw [hL] at H2 HZ2 HST HO
        have hLz : L.length + (D ++ ⟨#[13, 10]⟩ : ByteArray).size ≤ 1000000 := by
          have := HZ2.out
          have := HDZ.out
          have e2 : (D ++ ⟨#[13, 10]⟩ : ByteArray).size = D.size + 2 := by simp; rfl
          rw [e2]
          omega
        have hB2 := H2.out.2.size
        clear hs2 hL hbb e0
        go_wp2_with (refine put_str rfl _ _ rfl w.heap.size hB2 (D ++ ⟨#[13, 10]⟩) bv L rfl H2.out.1 rfl hLz ?_; intro v3 w3 hO3 hs3; refine RowKit.Hid.out ?_)
        refine Lib.hid ?_
        have hs3w := own_new H2.out.2 H2.out.1 (Nat.le_refl _) hs3
        rw [HD.out] at hO3
        have hB3 := hs3w.size
        obtain ⟨_, _, A3, c3, hAe, hbb3, e3, hR3, hn3⟩ := (HA.out.no hs3w) k hlt
        injection hAe with hAe; injection hAe with g1 g2; subst g1 g2
        rw [HPE.out] at e3 hR3 hn3
        have hl3 : (L ++ (digL 16 p.length ++ crlfT)).length + p.length ≤ 1000001 := by
          have := HZ2.out
          simp only [List.length_append]
          have : crlfT.length = 2 := rfl
          omega
        obtain ⟨L3, hL3⟩ : ∃ L3, L ++ (digL 16 p.length ++ crlfT) = L3 := ⟨_, rfl⟩
        rw [hL3] at hO3 hl3
        have HL3 := Lib.hid hL3
        have H3 := Lib.hid (And.intro hO3 (And.intro hs3w (And.intro hR3 hn3)))
        clear hO3 hs3w hs3 hR3 hn3 hL3 hB2 hLz
        go_wp2_with (refine wpList_push_opt rfl _ _ 23 5 rfl Tryz.underlying23 _ 1 1 infoU8 rfl (by decide) (by decide) w.heap.size L3.length v3 (L3.map byteQ) rfl H3.out.1 A3 p.length c3 (byteV p) rfl H3.out.2.2.2 (by simp [byteV]) H3.out.2.2.1 (byteV_one p) hl3 hB3 ?_; intro v4 w4 hO4 hs4 _; refine RowKit.Hid.out ?_)
        refine Lib.hid ?_
        have hs4w := own_new H3.out.2.1 H3.out.1 (Nat.le_refl _) hs4
        have hO4 := OwnQ.push2 hO4
        have hB4 := hs4w.size
        have hl4 : (L3 ++ p).length + (⟨#[13, 10]⟩ : ByteArray).size ≤ 1000000 := by
          have := HZ2.out
          have e2 : (⟨#[13, 10]⟩ : ByteArray).size = 2 := rfl
          rw [e2, ← HL3.out]
          simp only [List.length_append]
          have : crlfT.length = 2 := rfl
          omega
        have H4 := Lib.hid (And.intro hO4 hs4w)
        clear hO4 hs4w hs4 hbb3 e3 hl3 hB3
        go_wp2_with (refine put_str rfl _ _ rfl w.heap.size hB4 ⟨#[13, 10]⟩ v4 (L3 ++ p) rfl H4.out.1 rfl hl4 ?_; intro v5 w5 hO5 hs5; refine RowKit.Hid.out ?_)
        refine Lib.hid ?_
        have H5 := Lib.hid (And.intro hO5 (own_new H4.out.2 H4.out.1 (Nat.le_refl _) hs5))
        clear hO5 hs5 hB4 hl4
        go_wp2_with fail
        refine ⟨⟨k + 1, v5, by omega, rfl, by go_num, ?_, H5.out.2⟩, by simp [intOf]; omega⟩
        rw [HST.out, HCH.out]
        have h := H5.out.1
        rw [← HL3.out] at h
        rw [show L ++ (digL 16 p.length ++ (crlfT ++ (p ++ crlfT))) = L ++ (digL 16 p.length ++ crlfT) ++ p ++ txt ⟨#[13, 10]⟩ from by simp [txt, crlfT]]
        exact h
      · have i1 : ¬ (0 : Int) < (p.length : Int) := by omega
        have hp0 : p = [] := List.eq_nil_of_length_eq_zero (by omega)
        have HC := Lib.hid (show chunkT p = [] from by unfold chunkT; rw [if_pos hp0])
        clear hp0
        go_wp2_with fail
        refine ⟨⟨k + 1, bv, by omega, rfl, by go_num, ?_, HS.out⟩, by simp [intOf]; omega⟩
        rw [HST.out, HC.out, List.append_nil]
        exact HO.out
    · obtain rfl : k = ls.length := by omega
      have hO := HO.out
      rw [List.take_length] at hO
      obtain ⟨L, hL⟩ : ∃ L, (ls.map chunkT).flatten = L := ⟨_, rfl⟩
      rw [hL] at hO
      have hLz : L.length + (⟨#[48, 13, 10, 13, 10]⟩ : ByteArray).size ≤ 1000000 := by
        have h := HZ0.out
        unfold chunksT at h
        rw [hL, List.length_append] at h
        have e2 : (⟨#[48, 13, 10, 13, 10]⟩ : ByteArray).size = 5 := rfl
        rw [e2]
        omega
      have HE := Lib.hid (show chunksT ls = L ++ txt ⟨#[48, 13, 10, 13, 10]⟩ from by unfold chunksT; rw [hL]; rfl)
      have HO2 := Lib.hid hO
      have hB2 := HS.out.size
      clear hO hL
      go_wp2_with (refine put_str rfl _ _ rfl w.heap.size hB2 ⟨#[48, 13, 10, 13, 10]⟩ bv L rfl HO2.out rfl hLz ?_; intro v3 w3 hO3 hs3; refine RowKit.Hid.out ?_)
      refine Lib.hid ?_
      have H3 := Lib.hid (And.intro hO3 (own_new HS.out HO2.out (Nat.le_refl _) hs3))
      clear hO3 hs3
      go_wp2_with fail
      go_ret
      rw [HE.out]
      exact ⟨v3, rfl, H3.out.1, H3.out.2⟩
end Go.Proofs.YtiglfbimijnpcaaGreatDoor

