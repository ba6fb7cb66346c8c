/- The twin's Fields: Add. -/
import Derived.Test.YtiglfbimijnpcaaGreatDoorQC
import Derived.Deep.RegionLaw
namespace Go.Proofs.YtiglfbimijnpcaaGreatDoor
open Go.RowKit Go.Proofs

def RAddPost (w : World) (B g : Nat) (v0 : Value) (cur add : List Fld) (e : Ending) (w' : World) : Prop :=
  ∃ v, e = .returned (.tuple #[.int .i64 ((addL cur add).2.1 : Int), .int .i64 (addL cur add).2.2]) ∧ IsFields w' B g 88 v (addL cur add).1 ∧ (addL cur add).1.length ≤ 24 ∧ Sm (TouchF g v0) w w' ∧ Follows w v0 v

def RAddRel (w : World) (B g : Nat) (v0 : Value) (cur add : List Fld) (i : Value) (wr : World) : Prop :=
  ∃ (k : Nat) (v : Value) (l : List Fld), k ≤ add.length ∧ i = .int .i64 k ∧ addL cur add = ((addL l (add.drop k)).1, (addL l (add.drop k)).2.1 + k, (addL l (add.drop k)).2.2) ∧ l.length ≤ 24 ∧
    IsFields wr B g 88 v l ∧ Sm (TouchF g v0) w wr ∧ Follows w v0 v

set_option maxHeartbeats 4000000 in
theorem rAdd_any (w : World) (B g : Nat) (v0 : Value) (cur add : List Fld) (A : Option Addr) (c : Nat) (h0 : IsFields w B g 88 v0 cur) (hcur : cur.length ≤ 24) (hA : FRow w A add)
    (hdis : 0 < add.length → ∀ a, A = some a → ¬ TouchF g v0 a.block) (hshort : Short add) (hadd : add.length ≤ 1000000) (hB : B ≤ w.heap.size) :
    Calls Tryz.prog 52 #[.pointer (some ⟨g, 0, none⟩), .slice A add.length c] w (RAddPost w B g v0 cur add) := by
  have H0 := Lib.hid (And.intro h0 (And.intro hA hdis))
  have HS := Lib.hid hshort
  clear h0 hA hdis hshort
  go_enter Tryz.func52, Tryz.ntmps52
  go_wp2_with fail
  go_loopw [6] (fun i wr => RAddRel w B g v0 cur add i wr) (fun i _ => add.length - (intOf i).toNat)
  case atStart => exact ⟨0, v0, cur, Nat.zero_le _, rfl, by simp, hcur, H0.out.1, Sm.refl _ _, Or.inl rfl⟩
  case round =>
    obtain ⟨k, v, l, hk, rfl, hL, hl, hF, hs, hfo⟩ := hrel
    have HL := Lib.hid hL
    have HF := Lib.hid (And.intro hF (And.intro hs hfo))
    clear hL hF hs hfo
    by_cases hlt : k < add.length
    · obtain ⟨bb, off, rfl, hbb, r0, r1⟩ := (H0.out.2.1.sm HF.out.2.1 (H0.out.2.2 (by omega))) k hlt
      obtain ⟨s0, s1⟩ := HS.out _ (List.getElem_mem hlt)
      obtain ⟨nm, hnm⟩ : ∃ x, add[k].1 = x := ⟨_, rfl⟩
      obtain ⟨vl, hvl⟩ : ∃ x, add[k].2 = x := ⟨_, rfl⟩
      rw [hnm] at r0 s0
      rw [hvl] at r1 s1
      obtain ⟨f, hf⟩ : ∃ f, isF nm.data.toList vl.data.toList = f := ⟨_, rfl⟩
      have hx : isX add[k] = f := by unfold isX; rw [hnm, hvl]; exact hf
      have HX := Lib.hid (And.intro hx (And.intro hnm hvl))
      have HFF := Lib.hid hf
      clear hx hnm hvl hf
      go_wp2_with fail
      refine (rIs_say HFF s0 s1 _).mono ?_
      rintro e w1 ⟨rfl, hs1⟩
      have hsm := hs1
      have r2 := hs1.cell hbb r0
      have r3 := hs1.cell hbb r1
      have hbb1 := Nat.lt_of_lt_of_le hbb hs1.size
      have hF1 := HF.out.1.no hsm
      have hS1 := HF.out.2.1.trans hsm (fun _ _ h => h.elim)
      have hfo := HF.out.2.2
      cases f
      · have hend : addL cur add = (l, k, 8) := by rw [HL.out, addL_not hlt HX.out.1]; simp
        have HE := Lib.hid hend
        clear hend
        go_wp2_with fail
        exact bodyPost_ret (v := .tuple #[.int .i64 k, .int .i64 8]) (by simp [results, Tryz.results52, go_sem]) rfl
          ⟨v, by rw [HE.out], by rw [HE.out]; exact hF1, by rw [HE.out]; exact hl, hS1, hfo⟩
      · obtain ⟨A', c', rfl⟩ := hF1.len
        have cg := hF1.1.at 0 (v := .slice A' l.length c') rfl
        have zg := hF1.1.fz 0
        by_cases hfull : 24 ≤ l.length
        · have hend : addL cur add = (l, k, 3) := by rw [HL.out, addL_full hlt HX.out.1 hfull]; simp
          have HE := Lib.hid hend
          clear hend
          go_wp2_with fail
          exact bodyPost_ret (v := .tuple #[.int .i64 k, .int .i64 3]) (by simp [results, Tryz.results52, go_sem]) rfl
            ⟨_, by rw [HE.out], by rw [HE.out]; exact hF1, by rw [HE.out]; exact hl, hS1, hfo⟩
        · have hstep := addL_step hlt HX.out.1 hfull
          have HST := Lib.hid hstep
          have hfull2 : l.length < 24 := by omega
          clear hstep hfull
          have HR := Lib.hid (And.intro hF1 (And.intro hS1 hfo))
          have HOwn := Lib.hid ((hF1.2.1.alloc (.cells #[.string nm, .string vl] 65)).drew)
          have HBlk := Lib.hid (Bk.new w1 65 #[.string nm, .string vl]).drew
          have HKb := Lib.hid ((hF1.1.alloc (.cells #[.string nm, .string vl] 65)).drew)
          have HNe := Lib.hid (show ¬ (Value.slice A' l.length c').ownBlock = some g from hF1.2.2)
          have HBB := Lib.hid (show B ≤ ((w1.alloc (.cells #[.string nm, .string vl] 65)).drew).heap.size by
            have := hS1.size
            simp; omega)
          have hgl := hF1.1.lt
          clear hF1 hS1 hfo hsm
          go_wp2_with fail
          go_region_law
            ((refine step_push (by rfl) _ _ 27 65 (by rfl) Tryz.underlying27 _ 2 32 infoFieldB rfl (by decide) (by decide) B l.length _ (fldCells l) (by rfl) HOwn.out w1.heap.size #[.string nm, .string vl] (by rfl) HBlk.out rfl (by simp [Value.oneCell']) (by omega) HBB.out ?_; intro r cap w2 hown2 hs2 hr2; have hb2 := HKb.out.sm hs2 HNe.out; have cg2 := hb2.at 0 (v := .slice A' l.length c') rfl; have zg2 := hb2.fz 0))
          all_goals
            have hne : r ≠ g := by
              rcases hr2 with e | e
              · rintro rfl; exact HNe.out e
              · simp at e; omega
            have hs3 := (Sm.refl (fun x => x = g) w2).set1 0 (.slice (some ⟨r, 0, none⟩) (l.length + 1) cap)
            have hb3 : Bk (w2.setCell ⟨g, 0, none⟩ (.slice (some ⟨r, 0, none⟩) (l.length + 1) cap)) g 88 #[.slice (some ⟨r, 0, none⟩) (l.length + 1) cap] := (hb2.set 0 _).eq (by rfl)
            have ho3 := own_row_sm hown2 hs3 (fun b hb => by injection hb with hb; subst hb; exact hne)
            have hF3 : IsFields (w2.setCell ⟨g, 0, none⟩ (.slice (some ⟨r, 0, none⟩) (l.length + 1) cap)) B g 88 (.slice (some ⟨r, 0, none⟩) (l.length + 1) cap) (l ++ [add[k]]) :=
              ⟨hb3, by rw [fldCells_snoc, HX.out.2.1, HX.out.2.2, List.length_append]; exact ho3, by simp [Value.ownBlock]; exact hne⟩
            have hS2 := ((HR.out.2.1.alloc (.cells #[.string nm, .string vl] 65)).drew).trans hs2 (fun b hb e => by
              rcases HR.out.2.2 with f | ⟨q, f, hq⟩
              · exact Or.inr (f ▸ e)
              · rw [f] at e; injection e with e; omega)
            have hS3 := hS2.trans hs3 (fun b _ e => Or.inl e)
            have hf3 : Follows w v0 (.slice (some ⟨r, 0, none⟩) (l.length + 1) cap) := by
              rcases hr2 with e | e
              · rcases HR.out.2.2 with f | ⟨q, f, hq⟩
                · exact Or.inl (by rw [← f, e]; rfl)
                · rw [e] at f; injection f with f; exact Or.inr ⟨r, rfl, by omega⟩
              · have := HR.out.2.1.size
                simp at e
                exact Or.inr ⟨r, rfl, by omega⟩
            go_wp2_with fail
            exact ⟨⟨k + 1, _, l ++ [add[k]], by omega, by go_num, by rw [HL.out, HST.out]; simp; omega, by simp; omega, hF3, hS3, hf3⟩, by simp [intOf]; omega⟩
    · have hend : addL cur add = (l, add.length, 0) := by
        have e : k = add.length := by omega
        rw [HL.out, e, List.drop_length]; simp [addL]
      have HE := Lib.hid hend
      clear hend
      go_wp2_with fail
      exact bodyPost_ret (v := .tuple #[.int .i64 add.length, .int .i64 0]) (by simp [results, Tryz.results52, go_sem]) rfl
        ⟨v, by rw [HE.out], by rw [HE.out]; exact HF.out.1, by rw [HE.out]; exact hl, HF.out.2.1, HF.out.2.2⟩

end Go.Proofs.YtiglfbimijnpcaaGreatDoor

