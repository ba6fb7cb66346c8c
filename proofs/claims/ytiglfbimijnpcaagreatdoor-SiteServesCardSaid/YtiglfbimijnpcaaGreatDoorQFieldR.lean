/- The twin's Fields: Values, Get. -/
import Derived.Test.YtiglfbimijnpcaaGreatDoorQFieldQ
namespace Go.Proofs.YtiglfbimijnpcaaGreatDoor
open Go.RowKit Go.Proofs

theorem rSame_say {s t : ByteArray} {r : Bool} (h : Hid (sameL s.data.toList t.data.toList = r)) (hs : s.size ≤ 1000000) (ht : t.size ≤ 1000000) (w : World) :
    Calls Tryz.prog 106 #[.string s, .string t] w fun e w' => e = .returned (.bool r) ∧ Sm No w w' := by
  rw [← h.out]; exact rSame_any s t hs ht w

set_option maxHeartbeats 4000000 in
theorem rValues_any (w : World) (B g : Nat) (v : Value) (l : List Fld) (name : ByteArray) (hF : IsFields w B g 88 v l) (hl : l.length ≤ 24) (hshort : Short l) (hn : name.size ≤ 1000000) :
    Calls Tryz.prog 94 #[.pointer (some ⟨g, 0, none⟩), .string name] w (ValuesPost w l name) := by
  obtain ⟨A, c, rfl, hR⟩ := hF.row
  have hgb := hF.1.lt
  have cg := hF.1.at 0 (v := .slice A l.length c) rfl
  have HR := Lib.hid hR
  have HS := Lib.hid hshort
  clear hR hshort hF
  go_enter Tryz.func94, Tryz.ntmps94
  go_wp2_with fail
  go_loopw [5, 6] (fun acc i wr => ValRel w l name acc i wr) (fun _ i _ => l.length - (intOf i).toNat)
  case atStart => exact ⟨0, Nat.zero_le _, rfl, World.ownsRow_nil _ _ _ 1, Sm.refl _ _⟩
  case round =>
    obtain ⟨k, hk, rfl, hO, hs⟩ := hrel
    have cg' := hs.cell hgb cg
    have HO := Lib.hid (And.intro hO hs)
    clear hO hs
    by_cases hlt : k < l.length
    · obtain ⟨bb, off, hA, hbb, r0, r1⟩ := (HR.out.sm HO.out.2 (fun _ _ h => h)) k hlt
      subst hA
      obtain ⟨s0, s1⟩ := HS.out _ (List.getElem_mem hlt)
      have hsn := valuesL_snoc l name k hlt
      obtain ⟨nm, hnm⟩ : ∃ x, l[k].1 = x := ⟨_, rfl⟩
      obtain ⟨vl, hvl⟩ : ∃ x, l[k].2 = x := ⟨_, rfl⟩
      have k1 : (0 : Int) ≤ (k : Int) := by omega
      have k2 : (k : Int) < (l.length : Int) := by omega
      rw [hnm] at r0 s0 hsn
      rw [hvl] at r1 hsn
      obtain ⟨f, hf⟩ : ∃ f, sameL nm.data.toList name.data.toList = f := ⟨_, rfl⟩
      rw [hf] at hsn
      have HF := Lib.hid hf
      have HN := Lib.hid hsn
      clear hnm hvl hf hsn
      go_wp2_with fail
      refine (rSame_say HF s0 hn _).mono ?_
      rintro e w1 ⟨rfl, hs1⟩
      have hsm := hs1
      have r2 := hs1.cell hbb r0
      have r3 := hs1.cell hbb r1
      have cg2 := HO.out.2.trans hs1 (fun _ _ h => h) |>.cell hgb cg
      have hS1 := HO.out.2.trans hsm (fun _ _ h => h)
      have hO1 : OwnS w1 w.heap.size u5 (valuesL (l.take k) name) := own_row_sm HO.out.1 hsm (fun _ _ h => h)
      cases f
      · have HX := Lib.hid (And.intro hS1 hO1)
        clear hsm hS1 hO1 hs1
        go_wp2_with fail
        exact ⟨⟨k + 1, by omega, by go_num, by rw [HN.out]; exact HX.out.2, HX.out.1⟩, by simp [intOf]; omega⟩
      · have hkl : (valuesL (l.take k) name).length ≤ 1000000 := by
          have h1 := List.length_filter_le (fun x : Fld => sameL x.1.data.toList name.data.toList) (l.take k)
          have h2 := List.length_take_le k l
          unfold valuesL
          rw [List.length_map]
          omega
        have hbb1 : w.heap.size ≤ w1.heap.size := hS1.size
        have HX := Lib.hid (And.intro hS1 hO1)
        clear hsm hS1 hO1 hs1
        go_wp2_with (refine wpList_push rfl _ _ 82 9 rfl Tryz.underlying82 _ 1 16 infoStr rfl (by decide) (by decide) w.heap.size _ u5 _ rfl (World.ownsRow.alloc HX.out.2 _) w1.heap.size #[.string vl] rfl (Bk.new w1 _ _) rfl (by simp [Value.oneCell']) hkl (by simp; omega) ?_; intro v' w2 hown2 hs2 hv2)
        have hO3 : OwnS w2 w.heap.size v' (valuesL (l.take (k + 1)) name) := by
          rw [HN.out]
          unfold OwnS
          simpa using hown2
        have hS3 : Sm No w w2 := (HX.out.1.alloc (.cells #[.string vl] 9)).trans hs2 (fun b hb e => by
          have := (World.ownsRow.lt HX.out.2 b e).1
          omega)
        exact ⟨⟨k + 1, by omega, by go_num, hO3, hS3⟩, by simp [intOf]; omega⟩
    · have ha : l.take k = l := List.take_of_length_le (by omega)
      have HA := Lib.hid ha
      clear ha
      go_wp2_with fail
      go_ret
      exact ⟨_, rfl, by have := HO.out.1; rw [HA.out] at this; exact this, HO.out.2⟩
end Go.Proofs.YtiglfbimijnpcaaGreatDoor

