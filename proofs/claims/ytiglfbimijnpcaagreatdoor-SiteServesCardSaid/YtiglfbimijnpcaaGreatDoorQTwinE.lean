/- The document's Router: find, of. -/
import Derived.Test.YtiglfbimijnpcaaGreatDoorQT
namespace Go.Proofs.YtiglfbimijnpcaaGreatDoor
open Go.RowKit Go.Proofs
variable {tt : TypeId} {tl : List Value}

def RfRel (w : World) (L : List Lt) (path : Txt) (T : Txt × Bool) (bv okv iv : Value) (wr : World) : Prop :=
  ∃ (k : Nat) (best : ByteArray) (ok : Bool), k ≤ L.length ∧ iv = .int .i64 k ∧ bv = .string best ∧ okv = .bool ok ∧ findA path (txt best) ok (L.drop k) = T ∧ Sm No w wr
theorem fres {T : Txt × Bool} {p : ByteArray} {b : Bool} (h : T = (txt p, b)) : Ending.returned (.tuple #[.string p, .bool b]) = .returned (.tuple #[strB T.1, .bool T.2]) := by rw [h, strB_txt]
theorem findA_at {L : List Lt} {k : Nat} (path best : Txt) (ok : Bool) (h : k < L.length) : findA path best ok (L.drop k) = if (!wideL L[k].pat && L[k].pat == path) = true then (L[k].pat, true) else if (begins L[k].pat path && decide (best.length < L[k].pat.length)) = true then findA path L[k].pat true (L.drop (k + 1)) else findA path best ok (L.drop (k + 1)) := by
  rw [List.drop_eq_getElem_cons h, findA]

set_option maxRecDepth 100000 in
set_option maxHeartbeats 4000000 in
theorem rfind_any (w : World) (O : Nat → Prop) (r : Nat) (L : List Lt) (path : ByteArray) (h : IsTwin tt tl w O r L) (hLp : ∀ x ∈ L, x.pat.length ≤ 1000) (hL : L.length ≤ 64) (hp : path.size ≤ 1000000) :
    Calls Tryz.prog 91 #[.pointer (some ⟨r, 0, none⟩), .string path] w fun e w' => e = .returned (.tuple #[strB (findA (txt path) [] false L).1, .bool (findA (txt path) [] false L).2]) ∧ Sm No w w' := by
  obtain ⟨v, l, hT⟩ := h
  obtain ⟨AL, cL, rfl⟩ := hT.form
  obtain ⟨T, hTT⟩ : ∃ T, findA (txt path) [] false L = T := ⟨_, rfl⟩
  rw [hTT]
  have HT := Lib.hid (And.intro hT (And.intro hLp hTT))
  clear hT hLp hTT
  go_enter Tryz.func91, Tryz.ntmps91
  go_wp2_with fail
  go_loopw [6, 7, 8] (fun b ok i wr => RfRel w L (txt path) T b ok i wr) (fun _ _ i _ => L.length - (intOf i).toNat)
  case atStart => exact ⟨0, ⟨#[]⟩, false, Nat.zero_le _, rfl, rfl, rfl, HT.out.2.2, Sm.refl _ _⟩
  case round =>
    obtain ⟨k, best, ok, hk, rfl, rfl, rfl, hf, hsm⟩ := hrel
    have HS := Lib.hid (And.intro hsm hf)
    have c0 := (HT.out.1.no hsm).1.at 0 (v := .slice AL L.length cL) rfl
    clear hsm hf
    by_cases hlt : k < L.length
    · obtain ⟨g, A2, c2, hAe, r0, _, _, _, _⟩ := (HT.out.1.no HS.out.1).get hlt
      subst hAe
      have hat := findA_at (txt path) (txt best) ok hlt
      have hpl := HT.out.2.1 _ (List.getElem_mem hlt)
      rw [HS.out.2] at hat
      obtain ⟨y, hy⟩ : ∃ y, L[k].pat = y := ⟨_, rfl⟩
      rw [hy] at r0 hat hpl
      obtain ⟨pb, e1, e2⟩ : ∃ pb : ByteArray, strB y = .string pb ∧ txt pb = y := ⟨⟨y.toArray⟩, rfl, txt_mk _⟩
      rw [e1] at r0
      subst e2
      rw [txt_len] at hpl
      obtain ⟨wd, hwd⟩ : ∃ wd, wideL (txt pb) = wd := ⟨_, rfl⟩
      have HW := Lib.hid hwd
      rw [hwd] at hat
      have HA := Lib.hid hat
      have k1 : (0 : Int) ≤ (k : Int) := by omega
      have k2 : (k : Int) < (L.length : Int) := by omega
      clear hy e1 hat
      cases wd with
      | false =>
        by_cases hpp : txt pb = txt path
        · obtain rfl : path = pb := by rw [← mk_txt pb, ← mk_txt path, hpp]
          have hfin : T = (txt path, true) := by rw [HA.out]; simp
          have HF := Lib.hid hfin
          clear hfin hpp hwd
          go_wp2_with fail
          refine (wide_say HW (by omega) wr).mono ?_
          rintro e w2 ⟨rfl, rfl⟩
          go_wp2_with fail
          go_ret2
          exact ⟨fres HF.out, HS.out.1⟩
        · have e3 : ¬ pb.toList = path.toList := fun e => hpp ((bytes_eq_iff pb (txt path)).1 (e.trans ((bytes_eq_iff path (txt path)).2 rfl)))
          have e4 : (pb.toList == path.toList) = false := by simpa using e3
          have hfin : findA (txt path) (txt best) ok (L.drop (k + 1)) = T := by
            rw [HA.out, if_neg (by simpa using hpp), if_neg]
            unfold begins
            rw [hwd]; simp
          have HF := Lib.hid hfin
          clear hfin hpp hwd
          go_wp2_with fail
          refine (wide_say HW (by omega) wr).mono ?_
          rintro e w2 ⟨rfl, rfl⟩
          go_wp2_with fail
          go_quiet ((go_at_call 65; exact Calls.quiet_of_same (same_quiet (wide_say HW (by omega) _))))
          go_wp2_with fail
          exact ⟨⟨k + 1, best, ok, by omega, by go_num, rfl, rfl, HF.out, HS.out.1.drewN _⟩, by simp [intOf]; omega⟩
      | true =>
        have hb2 : 2 ≤ pb.size := by
          obtain ⟨q, hq⟩ := (wide_iff _).1 hwd
          rw [← txt_len, hq]; simp
        have k3 : (((pb.size : Int) - 1).toNat) = pb.size - 1 := by omega
        have p1 : (1 : Int) ≤ (pb.size : Int) := by omega
        obtain ⟨u, hu⟩ : ∃ u, path.extract 0 (pb.size - 1) = u := ⟨_, rfl⟩
        obtain ⟨z, hz⟩ : ∃ z, pb.extract 0 (pb.size - 1) = z := ⟨_, rfl⟩
        have htu : txt u = (txt path).take (pb.size - 1) := by rw [← hu, txt_extract, List.drop_zero]
        have htz : txt z = (txt pb).dropLast := by rw [← hz, txt_extract, List.drop_zero, List.dropLast_eq_take, txt_len]
        have hbg : begins (txt pb) (txt path) = (txt u == txt z) := by
          unfold begins
          rw [hwd, htu, htz, txt_len]; rfl
        by_cases q1 : pb.size - 1 ≤ path.size
        · have d1 : decide ((pb.size : Int) - 1 ≤ (path.size : Int)) = true := by simp; omega
          have d1' : (pb.size : Int) - 1 ≤ (path.size : Int) := by omega
          by_cases q2 : txt u = txt z
          · obtain rfl : u = z := by rw [← mk_txt u, ← mk_txt z, q2]
            by_cases q3 : best.size < pb.size
            · have d3 : decide ((best.size : Int) < (pb.size : Int)) = true := by simp; omega
              have d3' : (best.size : Int) < (pb.size : Int) := by omega
              have hfin : findA (txt path) (txt pb) true (L.drop (k + 1)) = T := by
                rw [HA.out, if_neg (by simp), if_pos (by rw [hbg, txt_len, txt_len]; simp [q3])]
              have HF := Lib.hid hfin
              clear hfin hwd htu htz hbg q2
              go_wp2_with fail
              refine (wide_say HW (by omega) wr).mono ?_
              rintro e w2 ⟨rfl, rfl⟩
              go_wp2_with fail
              go_quiet ((go_at_call 65; exact Calls.quiet_of_same (same_quiet (wide_say HW (by omega) _))))
              go_wp2_with fail
              exact ⟨⟨k + 1, pb, true, by omega, by go_num, rfl, rfl, HF.out, HS.out.1.drewN _⟩, by simp [intOf]; omega⟩
            · have d3 : decide ((best.size : Int) < (pb.size : Int)) = false := by simp; omega
              have hfin : findA (txt path) (txt best) ok (L.drop (k + 1)) = T := by
                rw [HA.out, if_neg (by simp), if_neg (by rw [hbg, txt_len, txt_len]; simp [q3])]
              have HF := Lib.hid hfin
              clear hfin hwd htu htz hbg q2
              go_wp2_with fail
              refine (wide_say HW (by omega) wr).mono ?_
              rintro e w2 ⟨rfl, rfl⟩
              go_wp2_with fail
              go_quiet ((go_at_call 65; exact Calls.quiet_of_same (same_quiet (wide_say HW (by omega) _))))
              go_wp2_with fail
              exact ⟨⟨k + 1, best, ok, by omega, by go_num, rfl, rfl, HF.out, HS.out.1.drewN _⟩, by simp [intOf]; omega⟩
          · have e3 : ¬ u.toList = z.toList := fun e => q2 ((bytes_eq_iff u (txt z)).1 (e.trans ((bytes_eq_iff z (txt z)).2 rfl)))
            have e4 : (u.toList == z.toList) = false := by simpa using e3
            have hbf : begins (txt pb) (txt path) = false := by rw [hbg]; simpa using q2
            have hfin : findA (txt path) (txt best) ok (L.drop (k + 1)) = T := by
              rw [HA.out, if_neg (by simp), if_neg (by rw [hbf]; simp)]
            have HF := Lib.hid hfin
            clear hfin hwd htu htz hbg q2 hbf
            go_wp2_with fail
            refine (wide_say HW (by omega) wr).mono ?_
            rintro e w2 ⟨rfl, rfl⟩
            go_wp2_with fail
            go_quiet ((go_at_call 65; exact Calls.quiet_of_same (same_quiet (wide_say HW (by omega) _))))
            go_wp2_with fail
            exact ⟨⟨k + 1, best, ok, by omega, by go_num, rfl, rfl, HF.out, HS.out.1.drewN _⟩, by simp [intOf]; omega⟩
        · have d1 : decide ((pb.size : Int) - 1 ≤ (path.size : Int)) = false := by simp; omega
          have hbf : begins (txt pb) (txt path) = false := by
            rw [hbg]
            have h1 : (txt u).length ≤ path.size := by rw [htu, List.length_take, txt_len]; omega
            have h2 : (txt z).length = pb.size - 1 := by rw [htz]; simp [txt_len]
            simp only [beq_eq_false_iff_ne, ne_eq]
            intro e
            rw [e] at h1
            omega
          have hfin : findA (txt path) (txt best) ok (L.drop (k + 1)) = T := by
            rw [HA.out, if_neg (by simp), if_neg (by rw [hbf]; simp)]
          have HF := Lib.hid hfin
          clear hfin hwd htu htz hbg hbf
          go_wp2_with fail
          refine (wide_say HW (by omega) wr).mono ?_
          rintro e w2 ⟨rfl, rfl⟩
          go_wp2_with fail
          go_quiet ((go_at_call 65; exact Calls.quiet_of_same (same_quiet (wide_say HW (by omega) _))))
          go_wp2_with fail
          exact ⟨⟨k + 1, best, ok, by omega, by go_num, rfl, rfl, HF.out, HS.out.1.drewN _⟩, by simp [intOf]; omega⟩
    · have hfin : T = (txt best, ok) := by
        rw [← HS.out.2, List.drop_eq_nil_of_le (by omega)]; rfl
      have HF := Lib.hid hfin
      clear hfin
      go_wp2_with fail
      go_ret2
      exact ⟨fres HF.out, HS.out.1⟩
end Go.Proofs.YtiglfbimijnpcaaGreatDoor

