/- The twin's Fields: Get, Drop; usherlaw10.texts. -/
import Derived.Test.YtnopbhboamembaaDoorFieldR
namespace Go.Proofs.YtnopbhboamembaaDoor
open Go.RowKit Go.Proofs

theorem join_take {ys : List (List UInt8)} {k : Nat} {y : List UInt8} (s : List UInt8) (h : ys[k]? = some y) : Lib.join (ys.take (k + 1)) s = if k = 0 then y else Lib.join (ys.take k) s ++ s ++ y := by
  cases ys with
  | nil => simp at h
  | cons x r =>
    cases k with
    | zero => simp at h; subst h; simp [Lib.join_one]
    | succ j =>
      rw [List.take_succ_cons, Lib.join_cons, if_neg (by omega), List.take_succ_cons, Lib.join_cons, Lib.joinTail_take_succ _ _ _ _ (by simpa using h)]
      simp [List.append_assoc]
theorem OwnS.row {w : World} {B : Nat} {v : Value} {l : List ByteArray} (h : OwnS w B v l) : ∃ A c, v = .slice A l.length c ∧ SRow w A l := by
  obtain ⟨A, c, rfl, hR, _⟩ := own_rowC h
  refine ⟨A, c, rfl, fun k hk => ?_⟩
  obtain ⟨bb, off, hA, hb, h1⟩ := hR k (.string l[k]) (by simp [hk])
  exact ⟨bb, off, hA, hb, h1⟩
theorem tlist_append (a b : ByteArray) : (a ++ b).data.toList = a.data.toList ++ b.data.toList := by simp

def GetRel (xs : List ByteArray) (s i : Value) : Prop := ∃ (k : Nat) (t : ByteArray), k ≤ xs.length ∧ i = .int .i64 k ∧ s = .string t ∧ t.data.toList = Lib.join ((xs.take k).map (·.data.toList)) sep ∧ t.size ≤ 1000002 * k

set_option maxHeartbeats 4000000 in
theorem rGet_any (w : World) (B g : Nat) (v : Value) (l : List Fld) (name : ByteArray) (hF : IsFields w B g 31 v l) (hl : l.length ≤ 24) (hshort : Short l) (hn : name.size ≤ 1000000) :
    Calls Tryd.prog 18 #[.pointer (some ⟨g, 0, none⟩), .string name] w fun e w' => ∃ t : ByteArray, t.data.toList = getL l name ∧ e = .returned (.string t) ∧ Sm No w w' := by
  have HV := Lib.hid (rValues_any w B g v l name hF hl hshort hn)
  have hvl := valuesL_len l name
  have hvs := valuesL_short (name := name) hshort
  have HS := Lib.hid hvs
  obtain ⟨xs, hxs⟩ : ∃ xs, valuesL l name = xs := ⟨_, rfl⟩
  unfold ValuesPost at HV
  rw [hxs] at HV hvl HS
  have HG := Lib.hid (show getL l name = Lib.join (xs.map (·.data.toList)) sep by unfold getL; rw [hxs])
  clear hF hshort hvs hxs
  go_enter Tryd.func18, Tryd.ntmps18
  go_wp2_with fail
  refine HV.out.mono ?_
  rintro e w1 ⟨vs, rfl, hO, hs⟩
  obtain ⟨A, c, rfl, hR⟩ := hO.row
  have HR := Lib.hid (And.intro hR hs)
  clear hO hs hR
  go_wp2_with fail
  go_loop [6, 7] (fun s i => GetRel xs s i) (fun _ i => xs.length - (intOf i).toNat)
  case atStart => exact ⟨0, ⟨#[]⟩, Nat.zero_le _, rfl, rfl, rfl, Nat.zero_le _⟩
  case round =>
    obtain ⟨k, t, hk, rfl, rfl, htd, hts⟩ := hrel
    have HT := Lib.hid htd
    clear htd
    by_cases hlt : k < xs.length
    · obtain ⟨bb, off, hAe, hbb, r0⟩ := HR.out.1 k hlt
      subst hAe
      have x0 := HS.out _ (List.getElem_mem hlt)
      have hj := join_take (ys := xs.map (·.data.toList)) (k := k) (y := xs[k].data.toList) sep (by simp [hlt])
      rw [← List.map_take, ← List.map_take, ← HT.out] at hj
      obtain ⟨x, hx⟩ : ∃ x, xs[k] = x := ⟨_, rfl⟩
      rw [hx] at r0 x0 hj
      have HJ := Lib.hid hj
      have k1 : (0 : Int) ≤ (k : Int) := by omega
      have k2 : (k : Int) < (xs.length : Int) := by omega
      have z1 : t.size + 2 ≤ 40000000 := by omega
      have z2 : t.size + 2 + x.size ≤ 40000000 := by omega
      have z3 : t.size + x.size ≤ 40000000 := by omega
      clear hx hj
      by_cases hk0 : k = 0
      · subst hk0
        rw [Nat.add_zero] at r0
        have ht0 : t.data.toList = [] := HT.out
        have hR2 : GetRel xs (.string (t ++ x)) (.int .i64 ((0 + 1 : Nat) : Int)) := by
          refine ⟨0 + 1, _, hlt, rfl, rfl, ?_, ?_⟩
          · rw [HJ.out, if_pos rfl, tlist_append, ht0]; rfl
          · rw [ByteArray.size_append]; omega
        have HR2 := Lib.hid hR2
        clear hR2 ht0
        go_wp2_with fail
        exact ⟨HR2.out, by simp [intOf]; omega⟩
      · have hR2 : GetRel xs (.string (t ++ (⟨#[44, 32]⟩ : ByteArray) ++ x)) (.int .i64 ((k + 1 : Nat) : Int)) := by
          refine ⟨k + 1, _, hlt, rfl, rfl, ?_, ?_⟩
          · rw [HJ.out, if_neg hk0, tlist_append, tlist_append]; rfl
          · rw [ByteArray.size_append, ByteArray.size_append]; have : (⟨#[44, 32]⟩ : ByteArray).size = 2 := rfl; omega
        have HR2 := Lib.hid hR2
        have k3 : (0 : Int) < (k : Int) := by omega
        clear hR2
        go_wp2_with fail
        exact ⟨HR2.out, by simp [intOf]; omega⟩
    · have ha : xs.take k = xs := List.take_of_length_le (by omega)
      have h1 := HT.out
      rw [ha, ← HG.out] at h1
      have H1 := Lib.hid h1
      clear h1 ha
      go_wp2_with fail
      go_ret
      exact ⟨t, H1.out, rfl, HR.out.2⟩

set_option maxHeartbeats 2000000 in
theorem texts10_any (w : World) (A B : Option Addr) (c d : Nat) (l : List ByteArray) (hA : SRow w A l) (hB : SRow w B l) (hl : l.length ≤ 1000000) :
    Calls Tryd.prog 14 #[.slice A l.length c, .slice B l.length d] w fun e w' => e = .returned (.bool true) ∧ Sm No w w' := by
  have HA := Lib.hid (And.intro hA hB)
  clear hA hB
  go_enter Tryd.func14, Tryd.ntmps14
  go_wp2_with fail
  go_loopw [5] (fun i wr => CountRel w l.length i wr) (fun i _ => l.length - (intOf i).toNat)
  case atStart => exact ⟨0, Nat.zero_le _, rfl, Sm.refl _ _⟩
  case round =>
    obtain ⟨k, hk, rfl, hs⟩ := hrel
    have HS := Lib.hid hs
    clear hs
    by_cases hlt : k < l.length
    · obtain ⟨b1, o1, hA1, hb1, r0⟩ := (HA.out.1.no HS.out) k hlt
      obtain ⟨b2, o2, hA2, hb2, r1⟩ := (HA.out.2.no HS.out) k hlt
      subst hA1 hA2
      obtain ⟨nm, hnm⟩ : ∃ x, l[k] = x := ⟨_, rfl⟩
      rw [hnm] at r0 r1
      have k1 : (0 : Int) ≤ (k : Int) := by omega
      have k2 : (k : Int) < (l.length : Int) := by omega
      clear hnm
      go_wp2_with fail
      first
        | (go_quiet (fail)
           go_wp2_with fail
           exact ⟨⟨k + 1, by omega, by go_num, HS.out.drewN _⟩, by simp [intOf]; omega⟩)
        | exact ⟨⟨k + 1, by omega, by go_num, HS.out⟩, by simp [intOf]; omega⟩
    · go_wp2_with fail
      go_ret
      exact ⟨rfl, HS.out⟩

def RDropPost (w : World) (B g : Nat) (names : List ByteArray) (l : List Fld) (e : Ending) (w' : World) : Prop :=
  ∃ v', e = .returned (.int .i64 (l.length - (leftL names l).length : Nat)) ∧ IsFields w' B g 31 v' (leftL names l) ∧ Sm (fun b => b = g) w w' ∧ ∀ b, v'.ownBlock = some b → w.heap.size ≤ b
def LeftRel (w : World) (names : List ByteArray) (l : List Fld) (left i : Value) (wr : World) : Prop :=
  ∃ k : Nat, k ≤ l.length ∧ i = .int .i64 k ∧ OwnF wr w.heap.size left (leftL names (l.take k)) ∧ Sm No w wr
def OutRel (w : World) (names : List ByteArray) (x : Fld) (o i : Value) (wr : World) : Prop :=
  ∃ k : Nat, k ≤ names.length ∧ i = .int .i64 k ∧ o = .bool (amongL (names.take k) x) ∧ Sm No w wr
theorem among_snoc {names : List ByteArray} {k : Nat} (h : k < names.length) (x : Fld) : amongL (names.take (k + 1)) x = (amongL (names.take k) x || sameL x.1.data.toList names[k].data.toList) := by
  unfold amongL
  rw [List.take_succ_eq_append_getElem h, List.any_append]
  simp [sameL_comm]

set_option maxRecDepth 100000 in
set_option maxHeartbeats 8000000 in
theorem rDrop_any (w : World) (B g : Nat) (v : Value) (l : List Fld) (A : Option Addr) (c : Nat) (names : List ByteArray) (hF : IsFields w B g 31 v l) (hl : l.length ≤ 1000000) (hsh : Short l) (hA : SRow w A names)
    (hnl : names.length ≤ 1000000) (hns : ∀ s ∈ names, s.size ≤ 1000000) (hB : B ≤ w.heap.size) :
    Calls Tryd.prog 21 #[.pointer (some ⟨g, 0, none⟩), .slice A names.length c] w (RDropPost w B g names l) := by
  obtain ⟨A2, c2, rfl, hR⟩ := hF.row
  have cg := hF.1.at 0 (v := .slice A2 l.length c2) rfl
  have zg := hF.1.fz 0
  have hgl := hF.1.lt
  have HF := Lib.hid (And.intro hF (And.intro hR (And.intro hsh (And.intro hA hns))))
  clear hF hR hsh hA hns
  go_enter Tryd.func21, Tryd.ntmps21
  go_wp2_with fail
  go_loopw [5, 6] (fun left i wr => LeftRel w names l left i wr) (fun _ i _ => l.length - (intOf i).toNat)
  case atStart => exact ⟨0, Nat.zero_le _, rfl, World.ownsRow_nil _ _ _ 2, Sm.refl _ _⟩
  case round =>
    obtain ⟨k, hk, rfl, hO, hs⟩ := hrel
    obtain ⟨wo, rfl⟩ : ∃ wo : World, wo = wr := ⟨_, rfl⟩
    have cg' := hs.cell hgl cg
    have HO := Lib.hid (And.intro hO hs)
    clear hO hs
    by_cases hlt : k < l.length
    · obtain ⟨bb, off, hAe, hbb, r0, r1⟩ := (HF.out.2.1.no HO.out.2) k hlt
      subst hAe
      obtain ⟨s0, s1⟩ := HF.out.2.2.1 _ (List.getElem_mem hlt)
      have hl1 := leftL_snoc names l k hlt
      obtain ⟨⟨nm, vl⟩, hx⟩ : ∃ x, l[k] = x := ⟨_, rfl⟩
      rw [hx] at r0 r1 s0 s1 hl1
      dsimp only at r0 r1 s0 s1
      have HL := Lib.hid hl1
      have k1 : (0 : Int) ≤ (k : Int) := by omega
      have k2 : (k : Int) < (l.length : Int) := by omega
      clear hx hl1
      go_wp2_with fail
      go_loopw [7, 8] (fun o i wr' => OutRel wo names (nm, vl) o i wr') (fun _ i _ => names.length - (intOf i).toNat)
      case atStart => exact ⟨0, Nat.zero_le _, rfl, rfl, Sm.refl _ _⟩
      case round =>
        obtain ⟨j, hj, rfl, rfl, hs⟩ := hrel
        have hgl' : g < wo.heap.size := Nat.lt_of_lt_of_le hgl HO.out.2.size
        have c1 := hs.cell hgl' cg'
        have r2 := hs.cell hbb r0
        have r3 := hs.cell hbb r1
        have HS := Lib.hid hs
        clear hs
        by_cases hlt2 : j < names.length
        · obtain ⟨b2, o2, hA2, hb2, r4⟩ := (HF.out.2.2.2.1.no (HO.out.2.trans HS.out (fun _ _ h => h))) j hlt2
          subst hA2
          have s2 := HF.out.2.2.2.2 _ (List.getElem_mem hlt2)
          have hsn := among_snoc hlt2 (nm, vl)
          obtain ⟨ns, hns⟩ : ∃ x, names[j] = x := ⟨_, rfl⟩
          rw [hns] at r4 s2 hsn
          obtain ⟨q, hq⟩ : ∃ q, amongL (names.take j) (nm, vl) = q := ⟨_, rfl⟩
          rw [hq] at hsn ⊢
          have HSN := Lib.hid hsn
          have j1 : (0 : Int) ≤ (j : Int) := by omega
          have j2 : (j : Int) < (names.length : Int) := by omega
          clear hns hsn hq
          cases q
          · obtain ⟨f, hf⟩ : ∃ f, sameL nm.data.toList ns.data.toList = f := ⟨_, rfl⟩
            have hsn2 : amongL (names.take (j + 1)) (nm, vl) = f := by rw [HSN.out, Bool.false_or]; exact hf
            have HF2 := Lib.hid hf
            have HSN2 := Lib.hid hsn2
            clear hf hsn2
            go_wp2_with fail
            have g1 := Nat.lt_of_lt_of_le hgl' HS.out.size
            have g2 := Nat.lt_of_lt_of_le hbb HS.out.size
            go_region_held3 (fun w' => w'.cell? ⟨g, 0, none⟩ = some (.slice (some ⟨bb, off, none⟩) l.length c2) ∧ w'.cell? ⟨bb, off + k * 2, none⟩ = some (.string nm) ∧ w'.cell? ⟨b2, o2 + j, none⟩ = some (.string ns)) (first | exact ⟨c1, r2, r4⟩ | exact ⟨c5, r6, r7⟩)
              ((go_at_call 37; (with_reducible refine (rSame_say HF2 s0 s2 _).mono ?_); rintro e w4 ⟨rfl, hs4⟩; have hs5 := HS.out.drew.trans hs4 (fun _ _ h => h); have c5 := hs4.cell (by simpa using g1) c1; have r6 := hs4.cell (by simpa using g2) r2; have r7 := hs4.cell (by simpa using hb2) r4))
            all_goals go_wp2_with fail
            all_goals exact ⟨⟨j + 1, by omega, by go_num, by rw [HSN2.out], hs5⟩, by simp [intOf]; omega⟩
          · have hsn2 : amongL (names.take (j + 1)) (nm, vl) = true := by rw [HSN.out, Bool.true_or]
            have HSN2 := Lib.hid hsn2
            clear hsn2
            go_wp2_with fail
            go_quiet (fail)
            go_wp2_with fail
            exact ⟨⟨j + 1, by omega, by go_num, by rw [HSN2.out], HS.out.drewN _⟩, by simp [intOf]; omega⟩
        · have ha : names.take j = names := List.take_of_length_le (by omega)
          rw [ha]
          have hsW := HO.out.2.trans HS.out (fun _ _ h => h)
          have hoW := own_row_sm HO.out.1 HS.out (fun _ _ h => h)
          have HW := Lib.hid (And.intro hoW hsW)
          clear ha hsW hoW
          obtain ⟨q, hq⟩ : ∃ q, amongL names (nm, vl) = q := ⟨_, rfl⟩
          have hl1 := HL.out
          rw [hq] at hl1 ⊢
          have HL1 := Lib.hid hl1
          clear hl1 hq
          cases q
          · have hwl : (leftL names (l.take k)).length ≤ 1000000 := Nat.le_trans (leftL_len _ _) (by simp; omega)
            go_wp2_with (refine wpList_push rfl _ _ 22 47 rfl Tryd.underlying22 _ 2 32 infoFieldB rfl (by decide) (by decide) w.heap.size _ u5 _ rfl (World.ownsRow.alloc HW.out.1 _) wr.heap.size #[.string nm, .string vl] rfl (Bk.new wr _ _) rfl (by simp [Value.oneCell']) hwl (by have := HW.out.2.size; simp; omega) ?_; intro v' w8 hown8 hs8 hv8)
            have hO9 : OwnF w8 w.heap.size v' (leftL names (l.take (k + 1))) := by
              rw [HL1.out, if_neg (by simp)]
              unfold OwnF
              rw [fldCells_snoc, List.length_append]
              exact hown8
            have hS9 : Sm No w w8 := (HW.out.2.alloc (.cells #[.string nm, .string vl] 47)).trans hs8 (fun b hb e => by
              have := (World.ownsRow.lt HW.out.1 b e).1
              omega)
            have H9 := Lib.hid (And.intro hO9 hS9)
            clear hO9 hS9 hown8 hs8 hv8
            go_wp2_with fail
            exact ⟨⟨k + 1, by omega, by go_num, H9.out.1, H9.out.2⟩, by simp [intOf]; omega⟩
          · have hO9 : OwnF wr w.heap.size u5 (leftL names (l.take (k + 1))) := by
              rw [HL1.out, if_pos rfl]; exact HW.out.1
            have H9 := Lib.hid hO9
            clear hO9
            go_wp2_with fail
            exact ⟨⟨k + 1, by omega, by go_num, H9.out, HW.out.2⟩, by simp [intOf]; omega⟩
    · have ha : leftL names (l.take k) = leftL names l := by rw [List.take_of_length_le (by omega)]
      have hW2 := HO.out.1
      rw [ha] at hW2
      obtain ⟨n3, hn3⟩ : ∃ n, (leftL names l).length = n := ⟨_, rfl⟩
      have hll := leftL_len names l
      rw [hn3] at hll
      have hW3 := hW2
      unfold OwnF at hW3
      rw [hn3] at hW3
      obtain ⟨A5, c5, hv5, _⟩ := own_rowC hW3
      subst hv5
      have hgl' : g < wo.heap.size := Nat.lt_of_lt_of_le hgl HO.out.2.size
      have hbg := HF.out.1.1.sm HO.out.2 (fun h => h)
      have zg' := hbg.fz 0
      have hb3 : Bk (wo.setCell ⟨g, 0, none⟩ (.slice A5 n3 c5)) g 31 #[.slice A5 n3 c5] := (hbg.set 0 _).eq (by rfl)
      have hs3 := (Sm.refl (fun x => x = g) wo).set1 0 (.slice A5 n3 c5)
      have hob : ∀ b, (Value.slice A5 n3 c5).ownBlock = some b → w.heap.size ≤ b := fun b hb => (World.ownsRow.lt hW3 b hb).1
      have hO3 := own_row_sm hW2 hs3 (fun b hb e => by have := hob b hb; omega)
      have hF3 : IsFields (wo.setCell ⟨g, 0, none⟩ (.slice A5 n3 c5)) B g 31 (.slice A5 n3 c5) (leftL names l) :=
        ⟨hb3, own_row_base hO3 (fun b hb => by have := hob b hb; omega), fun e => by have := hob _ e; omega⟩
      have hS3 : Sm (fun b => b = g) w (wo.setCell ⟨g, 0, none⟩ (.slice A5 n3 c5)) := (HO.out.2.any _).trans hs3 (fun b _ h => h)
      have hr : ((l.length : Int) - (n3 : Int)) = ((l.length - n3 : Nat) : Int) := by omega
      have H3 := Lib.hid (And.intro hF3 (And.intro hS3 (And.intro hob (And.intro hr hn3))))
      clear ha hW2 hW3 hbg hb3 hs3 hob hO3 hF3 hS3 hr hn3
      go_wp2_with fail
      go_ret
      exact ⟨_, by rw [H3.out.2.2.2.2]; exact ret_i H3.out.2.2.2.1, H3.out.1, H3.out.2.1, H3.out.2.2.1⟩
end Go.Proofs.YtnopbhboamembaaDoor
