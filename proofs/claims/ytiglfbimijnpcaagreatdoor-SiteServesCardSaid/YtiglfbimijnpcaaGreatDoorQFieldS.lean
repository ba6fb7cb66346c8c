/- The twin's Fields: Get, Drop; usherlaw10.texts. -/
import Derived.Test.YtiglfbimijnpcaaGreatDoorQFieldR
namespace Go.Proofs.YtiglfbimijnpcaaGreatDoor
open Go.RowKit Go.Proofs

theorem join_take {ys : List (List UInt8)} {k : Nat} {y : List UInt8} (s : List UInt8) (h : ys[k]? = some y) : Lib.join (ys.take (k + 1)) s = if k = 0 then y else Lib.join (ys.take k) s ++ s ++ y := by
  cases ys with
  | nil => simp at h
  | cons x r =>
    cases k with
    | zero => simp at h; subst h; simp [Lib.join_one]
    | succ j =>
      rw [List.take_succ_cons, Lib.join_cons, if_neg (by omega), List.take_succ_cons, Lib.join_cons, Lib.joinTail_take_succ _ _ _ _ (by simpa using h)]
      simp [List.append_assoc]
theorem OwnS.row {w : World} {B : Nat} {v : Value} {l : List ByteArray} (h : OwnS w B v l) : ∃ A c, v = .slice A l.length c ∧ SRow w A l := by
  obtain ⟨A, c, rfl, hR, _⟩ := own_rowC h
  refine ⟨A, c, rfl, fun k hk => ?_⟩
  obtain ⟨bb, off, hA, hb, h1⟩ := hR k (.string l[k]) (by simp [hk])
  exact ⟨bb, off, hA, hb, h1⟩
theorem tlist_append (a b : ByteArray) : (a ++ b).data.toList = a.data.toList ++ b.data.toList := by simp

def GetRel (xs : List ByteArray) (s i : Value) : Prop := ∃ (k : Nat) (t : ByteArray), k ≤ xs.length ∧ i = .int .i64 k ∧ s = .string t ∧ t.data.toList = Lib.join ((xs.take k).map (·.data.toList)) sep ∧ t.size ≤ 1000002 * k

set_option maxHeartbeats 4000000 in
theorem rGet_any (w : World) (B g : Nat) (v : Value) (l : List Fld) (name : ByteArray) (hF : IsFields w B g 88 v l) (hl : l.length ≤ 24) (hshort : Short l) (hn : name.size ≤ 1000000) :
    Calls Tryz.prog 53 #[.pointer (some ⟨g, 0, none⟩), .string name] w fun e w' => ∃ t : ByteArray, t.data.toList = getL l name ∧ e = .returned (.string t) ∧ Sm No w w' := by
  have HV := Lib.hid (rValues_any w B g v l name hF hl hshort hn)
  have hvl := valuesL_len l name
  have hvs := valuesL_short (name := name) hshort
  have HS := Lib.hid hvs
  obtain ⟨xs, hxs⟩ : ∃ xs, valuesL l name = xs := ⟨_, rfl⟩
  unfold ValuesPost at HV
  rw [hxs] at HV hvl HS
  have HG := Lib.hid (show getL l name = Lib.join (xs.map (·.data.toList)) sep by unfold getL; rw [hxs])
  clear hF hshort hvs hxs
  go_enter Tryz.func53, Tryz.ntmps53
  go_wp2_with fail
  refine HV.out.mono ?_
  rintro e w1 ⟨vs, rfl, hO, hs⟩
  obtain ⟨A, c, rfl, hR⟩ := hO.row
  have HR := Lib.hid (And.intro hR hs)
  clear hO hs hR
  go_wp2_with fail
  go_loop [6, 7] (fun s i => GetRel xs s i) (fun _ i => xs.length - (intOf i).toNat)
  case atStart => exact ⟨0, ⟨#[]⟩, Nat.zero_le _, rfl, rfl, rfl, Nat.zero_le _⟩
  case round =>
    obtain ⟨k, t, hk, rfl, rfl, htd, hts⟩ := hrel
    have HT := Lib.hid htd
    clear htd
    by_cases hlt : k < xs.length
    · obtain ⟨bb, off, hAe, hbb, r0⟩ := HR.out.1 k hlt
      subst hAe
      have x0 := HS.out _ (List.getElem_mem hlt)
      have hj := join_take (ys := xs.map (·.data.toList)) (k := k) (y := xs[k].data.toList) sep (by simp [hlt])
      rw [← List.map_take, ← List.map_take, ← HT.out] at hj
      obtain ⟨x, hx⟩ : ∃ x, xs[k] = x := ⟨_, rfl⟩
      rw [hx] at r0 x0 hj
      have HJ := Lib.hid hj
      have k1 : (0 : Int) ≤ (k : Int) := by omega
      have k2 : (k : Int) < (xs.length : Int) := by omega
      have z1 : t.size + 2 ≤ 40000000 := by omega
      have z2 : t.size + 2 + x.size ≤ 40000000 := by omega
      have z3 : t.size + x.size ≤ 40000000 := by omega
      clear hx hj
      by_cases hk0 : k = 0
      · subst hk0
        rw [Nat.add_zero] at r0
        have ht0 : t.data.toList = [] := HT.out
        have hR2 : GetRel xs (.string (t ++ x)) (.int .i64 ((0 + 1 : Nat) : Int)) := by
          refine ⟨0 + 1, _, hlt, rfl, rfl, ?_, ?_⟩
          · rw [HJ.out, if_pos rfl, tlist_append, ht0]; rfl
          · rw [ByteArray.size_append]; omega
        have HR2 := Lib.hid hR2
        clear hR2 ht0
        go_wp2_with fail
        exact ⟨HR2.out, by simp [intOf]; omega⟩
      · have hR2 : GetRel xs (.string (t ++ (⟨#[44, 32]⟩ : ByteArray) ++ x)) (.int .i64 ((k + 1 : Nat) : Int)) := by
          refine ⟨k + 1, _, hlt, rfl, rfl, ?_, ?_⟩
          · rw [HJ.out, if_neg hk0, tlist_append, tlist_append]; rfl
          · rw [ByteArray.size_append, ByteArray.size_append]; have : (⟨#[44, 32]⟩ : ByteArray).size = 2 := rfl; omega
        have HR2 := Lib.hid hR2
        have k3 : (0 : Int) < (k : Int) := by omega
        clear hR2
        go_wp2_with fail
        exact ⟨HR2.out, by simp [intOf]; omega⟩
    · have ha : xs.take k = xs := List.take_of_length_le (by omega)
      have h1 := HT.out
      rw [ha, ← HG.out] at h1
      have H1 := Lib.hid h1
      clear h1 ha
      go_wp2_with fail
      go_ret
      exact ⟨t, H1.out, rfl, HR.out.2⟩

def RDropPost (w : World) (B g : Nat) (names : List ByteArray) (l : List Fld) (e : Ending) (w' : World) : Prop :=
  ∃ v', e = .returned (.int .i64 (l.length - (leftL names l).length : Nat)) ∧ IsFields w' B g 88 v' (leftL names l) ∧ Sm (fun b => b = g) w w' ∧ ∀ b, v'.ownBlock = some b → w.heap.size ≤ b
def LeftRel (w : World) (names : List ByteArray) (l : List Fld) (left i : Value) (wr : World) : Prop :=
  ∃ k : Nat, k ≤ l.length ∧ i = .int .i64 k ∧ OwnF wr w.heap.size left (leftL names (l.take k)) ∧ Sm No w wr
def OutRel (w : World) (names : List ByteArray) (x : Fld) (o i : Value) (wr : World) : Prop :=
  ∃ k : Nat, k ≤ names.length ∧ i = .int .i64 k ∧ o = .bool (amongL (names.take k) x) ∧ Sm No w wr
theorem among_snoc {names : List ByteArray} {k : Nat} (h : k < names.length) (x : Fld) : amongL (names.take (k + 1)) x = (amongL (names.take k) x || sameL x.1.data.toList names[k].data.toList) := by
  unfold amongL
  rw [List.take_succ_eq_append_getElem h, List.any_append]
  simp [sameL_comm]

end Go.Proofs.YtiglfbimijnpcaaGreatDoor

