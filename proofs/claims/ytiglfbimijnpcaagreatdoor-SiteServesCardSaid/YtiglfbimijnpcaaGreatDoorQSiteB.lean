/- site: what an entry is. -/
import Derived.Test.YtiglfbimijnpcaaGreatDoorQSiteA
import Derived.Test.YtiglfbimijnpcaaGreatDoorQStatC
import Derived.Test.YtiglfbimijnpcaaGreatDoorQR
import Derived.Test.YtiglfbimijnpcaaGreatDoorQExt
namespace Go.Proofs.YtiglfbimijnpcaaGreatDoor
open Go.RowKit Go.Proofs

theorem suf_say {s p : ByteArray} {r : Bool} (h : Hid (Lib.hasSuffix s.data.toList p.data.toList = r)) (w : World) (hs : s.size ≤ 9223372036854775807) : Calls Tryz.prog 56 #[.string s, .string p] w fun e w' => e = .returned (.bool r) ∧ w' = w := by
  rw [← h.out]; exact Tryz.strings_HasSuffix s p w hs
theorem suf_wide (s : ByteArray) : Lib.hasSuffix s.data.toList (⟨#[47, 42]⟩ : ByteArray).data.toList = wideL (txt s) := by
  unfold wideL txt
  exact (Lib.hasSuffix_of_drop _ _).symm
set_option maxRecDepth 100000 in
set_option maxHeartbeats 8000000 in
theorem isEntry_any (w : World) (hg : G0 w) (x : Ent) (hp : x.path.size ≤ 900000) (ht : x.type.size ≤ 900000) (hd : x.data.size ≤ 900000) :
    Calls Tryz.prog 23 #[.agg #[.string x.path, .string x.type, .string x.data]] w fun e w' => e = .returned (.bool (entB x)) ∧ Sm No w w' := by
  obtain ⟨p, t, d⟩ := x
  dsimp only at hp ht hd ⊢
  have hb := Bk.new w 56 #[.string p, .string t, .string d]
  have c0 := hb.at 0 (v := .string p) rfl
  have c1 := hb.at 1 (v := .string t) rfl
  have c2 := hb.at 2 (v := .string d) rfl
  clear hb
  have hsm : Sm No w (w.alloc (.cells #[.string p, .string t, .string d] 56)) := (Sm.refl No w).alloc _
  have hz : w.heap.size < (w.alloc (.cells #[.string p, .string t, .string d] 56)).heap.size := by simp
  have hp2 : p.size ≤ 9223372036854775807 := by omega
  have HCl0 := clean_any p hp
  obtain ⟨E, hE⟩ : ∃ E, entB ⟨p, t, d⟩ = E := ⟨_, rfl⟩
  rw [hE]
  unfold entB plainL at hE
  dsimp only at hE
  cases hcl : cleanL (txt p) with
  | none =>
    rw [hcl] at hE HCl0
    have HCl := Lib.hid (HCl0 _ (hg.no hsm))
    have hE2 : E = false := by rw [← hE]; simp
    subst hE2
    clear hE HCl0 hcl hg hd
    unfold cleanV at HCl
    go_enter Tryz.func23, Tryz.ntmps23
    go_wp2_with fail
    refine HCl.out.mono ?_
    rintro e w2 ⟨rfl, hs2⟩
    have c0 := hs2.cell hz c0
    have c1 := hs2.cell hz c1
    have c2 := hs2.cell hz c2
    have hz2 := Nat.lt_of_lt_of_le hz hs2.size
    have HS := Lib.hid (hsm.trans hs2 (fun _ _ h => h))
    clear hs2 hsm
    go_wp2_with fail

    go_quiet (fail)
    go_wp2
    go_ret
    exact ⟨rfl, HS.out.drewN _⟩
  | some l =>
    rw [hcl] at hE HCl0
    have hC1 := HCl0 _ (hg.no hsm)
    clear HCl0 hcl hg
    by_cases q1 : l = txt p
    rotate_left
    · have e1 : (l == p.toList) = false := by
        rw [beq_eq_false_iff_ne]
        intro e
        exact q1 (e.trans (ByteArray.toList_eq p))
      unfold cleanV strB at hC1
      have HCl := Lib.hid hC1
      clear hC1
      have hE2 : E = false := by rw [← hE]; simp [q1]
      subst hE2
      clear hE q1
      go_enter Tryz.func23, Tryz.ntmps23
      go_wp2_with fail
      refine HCl.out.mono ?_
      rintro e w2 ⟨rfl, hs2⟩
      have c0 := hs2.cell hz c0
      have c1 := hs2.cell hz c1
      have c2 := hs2.cell hz c2
      have hz2 := Nat.lt_of_lt_of_le hz hs2.size
      have HS := Lib.hid (hsm.trans hs2 (fun _ _ h => h))
      clear hs2 hsm
      go_wp2_with fail
      go_quiet (fail)
      go_wp2
      go_ret
      exact ⟨rfl, HS.out.drewN _⟩
    subst q1
    rw [show cleanV (some (txt p)) = .tuple #[.string p, .bool true] from rfl] at hC1
    have HCl := Lib.hid hC1
    clear hC1
    by_cases q2 : p.size ≤ 200
    rotate_left
    · have e2 : decide ((p.size : Int) ≤ 200) = false := by simp; omega
      have q2b : ¬ (txt p).length ≤ 200 := by rw [txt_len]; exact q2
      have hE2 : E = false := by rw [← hE]; simp [q2b]
      subst hE2
      clear hE q2 q2b
      go_enter Tryz.func23, Tryz.ntmps23
      go_wp2_with fail
      refine HCl.out.mono ?_
      rintro e w2 ⟨rfl, hs2⟩
      have c0 := hs2.cell hz c0
      have c1 := hs2.cell hz c1
      have c2 := hs2.cell hz c2
      have hz2 := Nat.lt_of_lt_of_le hz hs2.size
      have HS := Lib.hid (hsm.trans hs2 (fun _ _ h => h))
      clear hs2 hsm
      go_wp2_with fail
      go_quiet (fail)
      go_wp2
      go_ret
      exact ⟨rfl, HS.out.drewN _⟩
    have e2p : decide ((p.size : Int) ≤ 200) = true := by simp; omega
    have q2b : (txt p).length ≤ 200 := by rw [txt_len]; exact q2
    obtain ⟨wd, hwd⟩ : ∃ wd, wideL (txt p) = wd := ⟨_, rfl⟩
    have HSf := Lib.hid ((suf_wide p).trans hwd)
    cases wd with
    | true =>
      have hE2 : E = false := by rw [← hE]; simp [hwd]
      subst hE2
      clear hE q2b hwd
      go_enter Tryz.func23, Tryz.ntmps23
      go_wp2_with fail
      refine HCl.out.mono ?_
      rintro e w2 ⟨rfl, hs2⟩
      have c0 := hs2.cell hz c0
      have c1 := hs2.cell hz c1
      have c2 := hs2.cell hz c2
      have hz2 := Nat.lt_of_lt_of_le hz hs2.size
      have HS := Lib.hid (hsm.trans hs2 (fun _ _ h => h))
      clear hs2 hsm
      go_wp2_with fail
      go_quiet ((first
        | (go_at_call 56; exact Calls.quiet_of_same (suf_say HSf _ hp2))
        | (go_at_call 57; exact Calls.quiet_of_same (same_quiet (isValue_say HVl ht _)))))
      go_wp2
      go_ret
      exact ⟨rfl, HS.out.drewN _⟩
    | false =>
      by_cases q3 : t.size = 0
      · have q3b : txt t = [] := List.eq_nil_of_length_eq_zero (by rw [txt_len]; exact q3)
        have e3 : t.toList = [] := by rw [ByteArray.toList_eq]; exact q3b
        have hE2 : E = false := by rw [← hE]; simp [q3b]
        subst hE2
        clear hE q2b hwd q3 q3b
        go_enter Tryz.func23, Tryz.ntmps23
        go_wp2_with fail
        refine HCl.out.mono ?_
        rintro e w2 ⟨rfl, hs2⟩
        have c0 := hs2.cell hz c0
        have c1 := hs2.cell hz c1
        have c2 := hs2.cell hz c2
        have hz2 := Nat.lt_of_lt_of_le hz hs2.size
        have HS := Lib.hid (hsm.trans hs2 (fun _ _ h => h))
        clear hs2 hsm
        go_wp2_with fail
        go_quiet ((first
          | (go_at_call 56; exact Calls.quiet_of_same (suf_say HSf _ hp2))
          | (go_at_call 57; exact Calls.quiet_of_same (same_quiet (isValue_say HVl ht _)))))
        go_wp2
        go_ret
        exact ⟨rfl, HS.out.drewN _⟩
      have q3b : (txt t).isEmpty = false := by
        cases h : txt t with
        | nil => exact absurd (by rw [← txt_len, h]; rfl) q3
        | cons => rfl
      have e3 : t.toList.isEmpty = false := by rw [ByteArray.toList_eq]; exact q3b
      have e3b : ¬ t.toList = [] := fun e => by rw [e] at e3; cases e3
      have e3c : (!t.toList.isEmpty) = true := by rw [e3]; rfl
      obtain ⟨vl, hvl⟩ : ∃ vl, valL (txt t) = vl := ⟨_, rfl⟩
      have HVl := Lib.hid (show valL t.data.toList = vl from hvl)
      have ht : t.size ≤ 1000000 := by omega
      cases vl with
      | false =>
        have hE2 : E = false := by rw [← hE]; simp [hvl]
        subst hE2
        clear hE q2b hwd q3 q3b hvl
        go_enter Tryz.func23, Tryz.ntmps23
        go_wp2_with fail
        refine HCl.out.mono ?_
        rintro e w2 ⟨rfl, hs2⟩
        have c0 := hs2.cell hz c0
        have c1 := hs2.cell hz c1
        have c2 := hs2.cell hz c2
        have hz2 := Nat.lt_of_lt_of_le hz hs2.size
        have HS := Lib.hid (hsm.trans hs2 (fun _ _ h => h))
        clear hs2 hsm
        go_wp2_with fail
        go_quiet ((first
          | (go_at_call 56; exact Calls.quiet_of_same (suf_say HSf _ hp2))
          | (go_at_call 57; exact Calls.quiet_of_same (same_quiet (isValue_say HVl ht _)))))
        go_wp2
        go_ret
        exact ⟨rfl, HS.out.drewN _⟩
      | true =>
        obtain ⟨r, hr⟩ : ∃ r, (⟨(trimL t.data.toList).toArray⟩ : ByteArray) = r := ⟨_, rfl⟩
        have HTr := Lib.hid hr
        have hq : (trimL (txt t) == txt t) = (r.toList == t.toList) := by
          rw [← hr, ByteArray.toList_eq, ByteArray.toList_eq]
          rfl
        obtain ⟨eq, heq⟩ : ∃ eq, (r.toList == t.toList) = eq := ⟨_, rfl⟩
        cases eq with
        | false =>
          have hq2 := hq.trans heq
          have hE2 : E = false := by rw [← hE]; simp [hq2]
          subst hE2
          clear hE q2b hwd q3 q3b hvl hr hq hq2
          go_enter Tryz.func23, Tryz.ntmps23
          go_wp2_with fail
          refine HCl.out.mono ?_
          rintro e w2 ⟨rfl, hs2⟩
          have c0 := hs2.cell hz c0
          have c1 := hs2.cell hz c1
          have c2 := hs2.cell hz c2
          have hz2 := Nat.lt_of_lt_of_le hz hs2.size
          have HS := Lib.hid (hsm.trans hs2 (fun _ _ h => h))
          clear hs2 hsm
          go_wp2_with fail
          have d0 : ∀ x : ExtW w2, x.w.cell? ⟨w.heap.size, 0, none⟩ = some (.string p) := fun x => x.cell hz2 c0
          have d1 : ∀ x : ExtW w2, x.w.cell? ⟨w.heap.size, 1, none⟩ = some (.string t) := fun x => x.cell hz2 c1
          have d2 : ∀ x : ExtW w2, x.w.cell? ⟨w.heap.size, 2, none⟩ = some (.string d) := fun x => x.cell hz2 c2
          refine wp_region_ext_lit (by kernel_rfl) (by kernel_rfl) ?_
          repeat (go_big_quiet_step ((first
            | (go_at_call 56; exact Calls.ext_same (suf_say HSf _ hp2))
            | (go_at_call 57; exact Calls.ext_eq (isValue_say HVl ht _))
            | (go_at_call 42; exact Calls.ext (trim_say HTr ht _)))))
          refine wpQuiet_nil ?_
          intro _ hw'
          obtain ⟨⟨w3, hs3⟩, hw''⟩ := hw'
          subst hw''
          clear d0 d1 d2
          go_wp2
          go_ret
          exact ⟨rfl, HS.out.trans hs3 (fun _ _ h => h)⟩
        | true =>
          by_cases q4 : t.size ≤ 100
          rotate_left
          · have e4 : decide ((t.size : Int) ≤ 100) = false := by simp; omega
            have q4b : ¬ (txt t).length ≤ 100 := by rw [txt_len]; exact q4
            have hE2 : E = false := by rw [← hE]; simp [q4b]
            subst hE2
            clear hE q2b hwd q3 q3b hvl hr hq q4 q4b
            go_enter Tryz.func23, Tryz.ntmps23
            go_wp2_with fail
            refine HCl.out.mono ?_
            rintro e w2 ⟨rfl, hs2⟩
            have c0 := hs2.cell hz c0
            have c1 := hs2.cell hz c1
            have c2 := hs2.cell hz c2
            have hz2 := Nat.lt_of_lt_of_le hz hs2.size
            have HS := Lib.hid (hsm.trans hs2 (fun _ _ h => h))
            clear hs2 hsm
            go_wp2_with fail
            have d0 : ∀ x : ExtW w2, x.w.cell? ⟨w.heap.size, 0, none⟩ = some (.string p) := fun x => x.cell hz2 c0
            have d1 : ∀ x : ExtW w2, x.w.cell? ⟨w.heap.size, 1, none⟩ = some (.string t) := fun x => x.cell hz2 c1
            have d2 : ∀ x : ExtW w2, x.w.cell? ⟨w.heap.size, 2, none⟩ = some (.string d) := fun x => x.cell hz2 c2
            refine wp_region_ext_lit (by kernel_rfl) (by kernel_rfl) ?_
            repeat (go_big_quiet_step ((first
              | (go_at_call 56; exact Calls.ext_same (suf_say HSf _ hp2))
              | (go_at_call 57; exact Calls.ext_eq (isValue_say HVl ht _))
              | (go_at_call 42; exact Calls.ext (trim_say HTr ht _)))))
            refine wpQuiet_nil ?_
            intro _ hw'
            obtain ⟨⟨w3, hs3⟩, hw''⟩ := hw'
            subst hw''
            clear d0 d1 d2
            go_wp2
            go_ret
            exact ⟨rfl, HS.out.trans hs3 (fun _ _ h => h)⟩
          have e4p : decide ((t.size : Int) ≤ 100) = true := by simp; omega
          have q4b : (txt t).length ≤ 100 := by rw [txt_len]; exact q4
          by_cases q5 : d.size ≤ 2048
          rotate_left
          · have e5 : decide ((d.size : Int) ≤ 2048) = false := by simp; omega
            have q5b : ¬ (txt d).length ≤ 2048 := by rw [txt_len]; exact q5
            have hE2 : E = false := by rw [← hE]; simp [q5b]
            subst hE2
            clear hE q2b hwd q3 q3b hvl hr hq q4b q5 q5b
            go_enter Tryz.func23, Tryz.ntmps23
            go_wp2_with fail
            refine HCl.out.mono ?_
            rintro e w2 ⟨rfl, hs2⟩
            have c0 := hs2.cell hz c0
            have c1 := hs2.cell hz c1
            have c2 := hs2.cell hz c2
            have hz2 := Nat.lt_of_lt_of_le hz hs2.size
            have HS := Lib.hid (hsm.trans hs2 (fun _ _ h => h))
            clear hs2 hsm
            go_wp2_with fail
            have d0 : ∀ x : ExtW w2, x.w.cell? ⟨w.heap.size, 0, none⟩ = some (.string p) := fun x => x.cell hz2 c0
            have d1 : ∀ x : ExtW w2, x.w.cell? ⟨w.heap.size, 1, none⟩ = some (.string t) := fun x => x.cell hz2 c1
            have d2 : ∀ x : ExtW w2, x.w.cell? ⟨w.heap.size, 2, none⟩ = some (.string d) := fun x => x.cell hz2 c2
            refine wp_region_ext_lit (by kernel_rfl) (by kernel_rfl) ?_
            repeat (go_big_quiet_step ((first
              | (go_at_call 56; exact Calls.ext_same (suf_say HSf _ hp2))
              | (go_at_call 57; exact Calls.ext_eq (isValue_say HVl ht _))
              | (go_at_call 42; exact Calls.ext (trim_say HTr ht _)))))
            refine wpQuiet_nil ?_
            intro _ hw'
            obtain ⟨⟨w3, hs3⟩, hw''⟩ := hw'
            subst hw''
            clear d0 d1 d2
            go_wp2
            go_ret
            exact ⟨rfl, HS.out.trans hs3 (fun _ _ h => h)⟩
          have e5p : decide ((d.size : Int) ≤ 2048) = true := by simp; omega
          have q5b : (txt d).length ≤ 2048 := by rw [txt_len]; exact q5
          have hq2 := hq.trans heq
          have hE2 : E = true := by rw [← hE]; simp [q2b, hwd, q3b, hvl, beq_iff_eq.1 hq2, q4b, q5b]
          subst hE2
          clear hE q2b hwd q3 q3b hvl hr hq hq2 q4b q5b
          go_enter Tryz.func23, Tryz.ntmps23
          go_wp2_with fail
          refine HCl.out.mono ?_
          rintro e w2 ⟨rfl, hs2⟩
          have c0 := hs2.cell hz c0
          have c1 := hs2.cell hz c1
          have c2 := hs2.cell hz c2
          have hz2 := Nat.lt_of_lt_of_le hz hs2.size
          have HS := Lib.hid (hsm.trans hs2 (fun _ _ h => h))
          clear hs2 hsm
          go_wp2_with fail
          have d0 : ∀ x : ExtW w2, x.w.cell? ⟨w.heap.size, 0, none⟩ = some (.string p) := fun x => x.cell hz2 c0
          have d1 : ∀ x : ExtW w2, x.w.cell? ⟨w.heap.size, 1, none⟩ = some (.string t) := fun x => x.cell hz2 c1
          have d2 : ∀ x : ExtW w2, x.w.cell? ⟨w.heap.size, 2, none⟩ = some (.string d) := fun x => x.cell hz2 c2
          refine wp_region_ext_lit (by kernel_rfl) (by kernel_rfl) ?_
          repeat (go_big_quiet_step ((first
            | (go_at_call 56; exact Calls.ext_same (suf_say HSf _ hp2))
            | (go_at_call 57; exact Calls.ext_eq (isValue_say HVl ht _))
            | (go_at_call 42; exact Calls.ext (trim_say HTr ht _)))))
          refine wpQuiet_nil ?_
          intro _ hw'
          obtain ⟨⟨w3, hs3⟩, hw''⟩ := hw'
          subst hw''
          clear d0 d1 d2
          go_wp2
          go_ret
          exact ⟨rfl, HS.out.trans hs3 (fun _ _ h => h)⟩
end Go.Proofs.YtiglfbimijnpcaaGreatDoor

