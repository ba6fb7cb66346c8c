/- Is it a field? The walks of field.isOne and of its twin. -/
/- strings.Cut at one byte. -/
/- A line as a field: field.Parse. -/
import Derived.Test.YtiglfbimijnpcaaGreatDoorQA
import Derived.Deep.RegionHeld3
import Derived.Deep.DeepCutAuto
import Derived.Deep.CutBlock
import Derived.Lib.IndexLaws
namespace Go.Proofs.YtiglfbimijnpcaaGreatDoor
open Go.RowKit Go.Proofs

theorem same_quiet {f : FuncId} {args : Array Value} {w : World} {v : Value} (h : Calls Tryz.prog f args w fun e w' => e = .returned v ∧ w = w') : Calls Tryz.prog f args w fun e w' => e = .returned v ∧ w' = w :=
  h.mono fun _ _ ⟨a, b⟩ => ⟨a, b.symm⟩

theorem toList_iff (r v : ByteArray) : r.toList = v.toList ↔ r.data = v.data := by rw [Go.ByteArray.toList_eq, Go.ByteArray.toList_eq]; exact Array.toList_inj

/-- Is a name with a value a field? -/
def isF (n v : List UInt8) : Bool := tokL n && (valL v && trimL v == v)
theorem isToken_say {s : ByteArray} {r : Bool} (h : Hid (tokL s.data.toList = r)) (hs : s.size ≤ 1000000) (w : World) : Calls Tryz.prog 61 #[.string s] w fun e w' => e = .returned (.bool r) ∧ w = w' := by
  rw [← h.out]; exact isToken_any s (by omega) w
theorem isValue_say {s : ByteArray} {r : Bool} (h : Hid (valL s.data.toList = r)) (hs : s.size ≤ 1000000) (w : World) : Calls Tryz.prog 57 #[.string s] w fun e w' => e = .returned (.bool r) ∧ w = w' := by
  rw [← h.out]; exact isValue_any s (by omega) w
theorem trim_say {s r : ByteArray} (h : Hid ((⟨(trimL s.data.toList).toArray⟩ : ByteArray) = r)) (hs : s.size ≤ 1000000) (w : World) : Calls Tryz.prog 42 #[.string s] w fun e w' => e = .returned (.string r) ∧ Sm No w w' := by
  rw [← h.out]; exact trim_any s (by omega) w
theorem rIsToken_say {s : ByteArray} {r : Bool} (h : Hid (tokL s.data.toList = r)) (hs : s.size ≤ 1000000) (w : World) : Calls Tryz.prog 48 #[.string s] w fun e w' => e = .returned (.bool r) ∧ w = w' := by
  rw [← h.out]; exact rIsToken_any s (by omega) w
theorem rIsValue_say {s : ByteArray} {r : Bool} (h : Hid (valL s.data.toList = r)) (hs : s.size ≤ 1000000) (w : World) : Calls Tryz.prog 28 #[.string s] w fun e w' => e = .returned (.bool r) ∧ w = w' := by
  rw [← h.out]; exact rIsValue_any s (by omega) w
theorem rTrim_say {s r : ByteArray} (h : Hid ((⟨(trimL s.data.toList).toArray⟩ : ByteArray) = r)) (hs : s.size ≤ 1000000) (w : World) : Calls Tryz.prog 29 #[.string s] w fun e w' => e = .returned (.string r) ∧ w = w' := by
  rw [← h.out]; exact rTrim_any s (by omega) w

set_option maxHeartbeats 1000000 in
theorem isOne_any (n v : ByteArray) (hn : n.size ≤ 1000000) (hv : v.size ≤ 1000000) (w : World) :
    Calls Tryz.prog 120 #[.agg #[.string n, .string v]] w fun e w' => e = .returned (.bool (isF n.data.toList v.data.toList)) ∧ Sm No w w' := by
  unfold isF
  have hb := Bk.new w 65 #[.string n, .string v]
  have c0 := hb.at 0 (v := .string n) rfl
  have c1 := hb.at 1 (v := .string v) rfl
  clear hb
  cases h1 : tokL n.data.toList
  · have H1 := Lib.hid h1
    clear h1
    go_enter Tryz.func120, Tryz.ntmps120
    go_wp2_with fail
    go_quiet ((go_at_call 61; exact Calls.quiet_of_same (same_quiet (isToken_say H1 hn _))))
    go_wp2
    go_ret
    exact ⟨rfl, ((Sm.refl No w).alloc _).drewN _⟩
  · have H1 := Lib.hid h1
    clear h1
    cases h2 : valL v.data.toList
    · have H2 := Lib.hid h2
      clear h2
      go_enter Tryz.func120, Tryz.ntmps120
      go_wp2_with fail
      go_quiet ((first
        | (go_at_call 61; exact Calls.quiet_of_same (same_quiet (isToken_say H1 hn _)))
        | (go_at_call 57; exact Calls.quiet_of_same (same_quiet (isValue_say H2 hv _)))))
      go_wp2
      go_ret
      exact ⟨rfl, ((Sm.refl No w).alloc _).drewN _⟩
    · have H2 := Lib.hid h2
      obtain ⟨r, hr⟩ : ∃ r, (⟨(trimL v.data.toList).toArray⟩ : ByteArray) = r := ⟨_, rfl⟩
      have hq : (trimL v.data.toList == v.data.toList) = (r.data.toList == v.data.toList) := by rw [← hr]
      rw [hq]
      have HR := Lib.hid hr
      clear h2 hq hr
      have hz : w.heap.size < (w.alloc (.cells #[.string n, .string v] 65)).heap.size := by simp
      generalize hw : w.alloc (.cells #[.string n, .string v] 65) = w0 at c0 c1 hz
      have hsm : Sm No w w0 := by rw [← hw]; exact (Sm.refl No w).alloc _
      have HW := Lib.hid hw
      clear hw
      go_enter Tryz.func120, Tryz.ntmps120
      go_wp2_with fail
      rw [HW.out]
      go_region_held3 (fun w' => w'.cell? ⟨w.heap.size, 0, none⟩ = some (.string n) ∧ w'.cell? ⟨w.heap.size, 1, none⟩ = some (.string v)) (first | exact ⟨c0, c1⟩ | exact ⟨c4, c5⟩)
        (first
          | (go_at_call 61; (with_reducible refine (isToken_say H1 hn _).mono ?_); rintro e w4 ⟨rfl, rfl⟩)
          | (go_at_call 57; (with_reducible refine (isValue_say H2 hv _).mono ?_); rintro e w4 ⟨rfl, rfl⟩)
          | (go_at_call 42; (with_reducible refine (trim_say HR hv _).mono ?_); rintro e w4 ⟨rfl, hs4⟩; have hs5 := (hsm.drew.trans hs4 (fun _ _ h => h)); have c4 := hs4.cell (by simpa using hz) c0; have c5 := hs4.cell (by simpa using hz) c1))
      all_goals go_wp2_with fail
      all_goals go_ret
      all_goals exact ⟨ret_bool (by simp [toList_iff]), hs5⟩

set_option maxHeartbeats 1000000 in
theorem rIs_any (n v : ByteArray) (hn : n.size ≤ 1000000) (hv : v.size ≤ 1000000) (w : World) :
    Calls Tryz.prog 18 #[.agg #[.string n, .string v]] w fun e w' => e = .returned (.bool (isF n.data.toList v.data.toList)) ∧ Sm No w w' := by
  unfold isF
  have hb := Bk.new w 65 #[.string n, .string v]
  have c0 := hb.at 0 (v := .string n) rfl
  have c1 := hb.at 1 (v := .string v) rfl
  clear hb
  cases h1 : tokL n.data.toList
  · have H1 := Lib.hid h1
    clear h1
    go_enter Tryz.func18, Tryz.ntmps18
    go_wp2_with fail
    go_quiet ((go_at_call 48; exact Calls.quiet_of_same (same_quiet (rIsToken_say H1 hn _))))
    go_wp2
    go_ret
    exact ⟨rfl, ((Sm.refl No w).alloc _).drewN _⟩
  · have H1 := Lib.hid h1
    clear h1
    cases h2 : valL v.data.toList
    · have H2 := Lib.hid h2
      clear h2
      go_enter Tryz.func18, Tryz.ntmps18
      go_wp2_with fail
      go_quiet ((first
        | (go_at_call 48; exact Calls.quiet_of_same (same_quiet (rIsToken_say H1 hn _)))
        | (go_at_call 28; exact Calls.quiet_of_same (same_quiet (rIsValue_say H2 hv _)))))
      go_wp2
      go_ret
      exact ⟨rfl, ((Sm.refl No w).alloc _).drewN _⟩
    · have H2 := Lib.hid h2
      obtain ⟨r, hr⟩ : ∃ r, (⟨(trimL v.data.toList).toArray⟩ : ByteArray) = r := ⟨_, rfl⟩
      have hq : (trimL v.data.toList == v.data.toList) = (r.data.toList == v.data.toList) := by rw [← hr]
      rw [hq]
      have HR := Lib.hid hr
      clear h2 hq hr
      go_enter Tryz.func18, Tryz.ntmps18
      go_wp2_with fail
      go_quiet ((first
        | (go_at_call 48; exact Calls.quiet_of_same (same_quiet (rIsToken_say H1 hn _)))
        | (go_at_call 28; exact Calls.quiet_of_same (same_quiet (rIsValue_say H2 hv _)))
        | (go_at_call 29; exact Calls.quiet_of_same (same_quiet (rTrim_say HR hv _)))))
      go_wp2
      go_ret
      exact ⟨ret_bool (by simp [toList_iff]), ((Sm.refl No w).alloc _).drewN _⟩
end Go.Proofs.YtiglfbimijnpcaaGreatDoor

namespace Go.Proofs.YtiglfbimijnpcaaGreatDoor
open Go.RowKit Go.Proofs

theorem index_one (s : ByteArray) (c : UInt8) (w : World) (r : Int) (h : Hid (Lib.indexByte s.data.toList c = r)) : Calls Tryz.prog 180 #[.string s, .string ⟨#[c]⟩] w fun e w' => e = .returned (.int .i64 r) ∧ w = w' := by
  rw [← h.out]
  exact (Tryz.stringslite_Index_one s c w).mono fun _ _ ⟨a, b⟩ => ⟨a, b.symm⟩

end Go.Proofs.YtiglfbimijnpcaaGreatDoor

namespace Go.Proofs.YtiglfbimijnpcaaGreatDoor
open Go.RowKit Go.Proofs

/-- What a line is: how it was refused (0: it was not), name, value. -/
def parseL (l : List UInt8) : Int × List UInt8 × List UInt8 :=
  if 256 < l.length then (9, [], [])
  else if Lib.indexByte l 58 = -1 then (8, [], [])
  else if isF (l.take (Lib.indexByte l 58).toNat) (trimL (l.drop ((Lib.indexByte l 58).toNat + 1))) = true then (0, l.take (Lib.indexByte l 58).toNat, trimL (l.drop ((Lib.indexByte l 58).toNat + 1)))
  else (8, [], [])

def fieldV (n v : List UInt8) : Value := .agg #[.string ⟨n.toArray⟩, .string ⟨v.toArray⟩]
def parseV (p : Int × List UInt8 × List UInt8) : Value := .tuple #[fieldV p.2.1 p.2.2, .int .i64 p.1]

theorem index_lt (l : List UInt8) (c : UInt8) (i : Nat) (h : Lib.indexByte l c = i) : i < l.length := by
  have := (Lib.indexByte_some h).1
  exact (List.getElem?_eq_some_iff.mp this).1
theorem index_cases (l : List UInt8) (c : UInt8) : Lib.indexByte l c = -1 ∨ ∃ i : Nat, Lib.indexByte l c = i := by
  have := Lib.indexByte_ge l c
  by_cases h : Lib.indexByte l c = -1
  · exact Or.inl h
  · exact Or.inr ⟨(Lib.indexByte l c).toNat, by omega⟩
theorem isOne_say {n v : ByteArray} {r : Bool} (h : Hid (isF n.data.toList v.data.toList = r)) (hn : n.size ≤ 1000000) (hv : v.size ≤ 1000000) (w : World) :
    Calls Tryz.prog 120 #[.agg #[.string n, .string v]] w fun e w' => e = .returned (.bool r) ∧ Sm No w w' := by
  rw [← h.out]; exact isOne_any n v hn hv w
theorem dropR_le (l : List UInt8) : (dropR l).length ≤ l.length := by
  unfold dropR
  have := (List.dropWhile_sublist blB (l := l.reverse)).length_le
  simpa using this
theorem trimL_le (l : List UInt8) : (trimL l).length ≤ l.length := by
  rw [trimL_eq]
  exact Nat.le_trans (dropR_le _) ((List.dropWhile_sublist blB (l := l)).length_le)

end Go.Proofs.YtiglfbimijnpcaaGreatDoor

