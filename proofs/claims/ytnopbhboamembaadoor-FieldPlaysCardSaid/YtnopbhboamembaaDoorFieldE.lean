/- field's Add. -/
import Derived.Test.YtnopbhboamembaaDoorFieldD
import Derived.Deep.RegionLaw
namespace Go.Proofs.YtnopbhboamembaaDoor
open Go.RowKit Go.Proofs

theorem infoFields : (Tryd.prog.info? 69).map (fun i => (i.zero, i.size)) = some (some (.agg #[.slice none 0 0]), 1) := by kernel_rfl
theorem infoFieldB : (Tryd.prog.info? 47).map (fun i => (i.zero, i.size, i.bytes)) = some (some (.agg #[.string ⟨#[]⟩, .string ⟨#[]⟩]), 2, 32) := by kernel_rfl

def TouchF (g : Nat) (v0 : Value) : Nat → Prop := fun b => b = g ∨ v0.ownBlock = some b
def Follows (w : World) (v0 v : Value) : Prop := v.ownBlock = v0.ownBlock ∨ ∃ b, v.ownBlock = some b ∧ w.heap.size ≤ b

def AddPost (w : World) (B g : Nat) (v0 : Value) (cur add : List Fld) (e : Ending) (w' : World) : Prop :=
  ∃ v, e = .returned (.tuple #[.int .i64 ((addL cur add).2.1 : Int), .int .i64 (addL cur add).2.2]) ∧ IsFields w' B g 69 v (addL cur add).1 ∧ (addL cur add).1.length ≤ 24 ∧ Sm (TouchF g v0) w w' ∧ Follows w v0 v

def AddRel (w : World) (B g : Nat) (v0 : Value) (cur add : List Fld) (i : Value) (wr : World) : Prop :=
  ∃ (k : Nat) (v : Value) (l : List Fld), k ≤ add.length ∧ i = .int .i64 k ∧ addL cur add = ((addL l (add.drop k)).1, (addL l (add.drop k)).2.1 + k, (addL l (add.drop k)).2.2) ∧ l.length ≤ 24 ∧
    IsFields wr B g 69 v l ∧ Sm (TouchF g v0) w wr ∧ Follows w v0 v

set_option maxHeartbeats 4000000 in
theorem add_any (w : World) (B g : Nat) (v0 : Value) (cur add : List Fld) (A : Option Addr) (c : Nat) (h0 : IsFields w B g 69 v0 cur) (hcur : cur.length ≤ 24) (hA : FRow w A add)
    (hdis : 0 < add.length → ∀ a, A = some a → ¬ TouchF g v0 a.block) (hshort : Short add) (hadd : add.length ≤ 1000000) (hB : B ≤ w.heap.size) :
    Calls Tryd.prog 12 #[.pointer (some ⟨g, 0, none⟩), .slice A add.length c] w (AddPost w B g v0 cur add) := by
  have H0 := Lib.hid (And.intro h0 (And.intro hA hdis))
  have HS := Lib.hid hshort
  clear h0 hA hdis hshort
  go_enter Tryd.func12, Tryd.ntmps12
  go_wp2_with fail
  go_loopw [12] (fun i wr => AddRel w B g v0 cur add i wr) (fun i _ => add.length - (intOf i).toNat)
  case atStart => exact ⟨0, v0, cur, Nat.zero_le _, rfl, by simp, hcur, H0.out.1, Sm.refl _ _, Or.inl rfl⟩
  case round =>
    obtain ⟨k, v, l, hk, rfl, hL, hl, hF, hs, hfo⟩ := hrel
    have HL := Lib.hid hL
    have HF := Lib.hid (And.intro hF (And.intro hs hfo))
    clear hL hF hs hfo
    by_cases hlt : k < add.length
    · obtain ⟨bb, off, rfl, hbb, r0, r1⟩ := (H0.out.2.1.sm HF.out.2.1 (H0.out.2.2 (by omega))) k hlt
      obtain ⟨s0, s1⟩ := HS.out _ (List.getElem_mem hlt)
      obtain ⟨nm, hnm⟩ : ∃ x, add[k].1 = x := ⟨_, rfl⟩
      obtain ⟨vl, hvl⟩ : ∃ x, add[k].2 = x := ⟨_, rfl⟩
      rw [hnm] at r0 s0
      rw [hvl] at r1 s1
      obtain ⟨f, hf⟩ : ∃ f, isF nm.data.toList vl.data.toList = f := ⟨_, rfl⟩
      have hx : isX add[k] = f := by unfold isX; rw [hnm, hvl]; exact hf
      have HX := Lib.hid (And.intro hx (And.intro hnm hvl))
      have HFF := Lib.hid hf
      clear hx hnm hvl hf
      go_wp2_with fail
      refine (isOne_say HFF s0 s1 _).mono ?_
      rintro e w1 ⟨rfl, hs1⟩
      have hsm := ((Sm.refl No wr).alloc (.cells #[.string nm, .string vl] 47)).trans hs1 (fun _ _ h => h)
      have hF1 := HF.out.1.no hsm
      have hS1 := HF.out.2.1.trans hsm (fun _ _ h => h.elim)
      have hfo := HF.out.2.2
      have hbx := (Bk.new wr 47 #[.string nm, .string vl]).sm hs1 (fun h => h)
      cases f
      · have hend : addL cur add = (l, k, 8) := by rw [HL.out, addL_not hlt HX.out.1]; simp
        have HE := Lib.hid hend
        clear hend
        go_wp2_with fail
        exact bodyPost_ret (v := .tuple #[.int .i64 k, .int .i64 8]) (by simp [results, Tryd.results12, go_sem]) rfl
          ⟨v, by rw [HE.out], by rw [HE.out]; exact hF1, by rw [HE.out]; exact hl, hS1, hfo⟩
      · obtain ⟨A', c', rfl⟩ := hF1.len
        have cg := hF1.1.at 0 (v := .slice A' l.length c') rfl
        have zg := hF1.1.fz 0
        have d0 := hbx.at 0 (v := .string nm) rfl
        have d1 := hbx.at 1 (v := .string vl) rfl
        by_cases hfull : 24 ≤ l.length
        · have hend : addL cur add = (l, k, 3) := by rw [HL.out, addL_full hlt HX.out.1 hfull]; simp
          have HE := Lib.hid hend
          clear hend
          go_wp2_with fail
          exact bodyPost_ret (v := .tuple #[.int .i64 k, .int .i64 3]) (by simp [results, Tryd.results12, go_sem]) rfl
            ⟨_, by rw [HE.out], by rw [HE.out]; exact hF1, by rw [HE.out]; exact hl, hS1, hfo⟩
        · have hstep := addL_step hlt HX.out.1 hfull
          have HST := Lib.hid hstep
          have hfull2 : l.length < 24 := by omega
          clear hstep hfull
          have HR := Lib.hid (And.intro hF1 (And.intro hS1 hfo))
          have HOwn := Lib.hid ((hF1.2.1.alloc (.cells #[.string nm, .string vl] 47)).drew)
          have HBlk := Lib.hid (Bk.new w1 47 #[.string nm, .string vl]).drew
          have HKb := Lib.hid ((hF1.1.alloc (.cells #[.string nm, .string vl] 47)).drew)
          have HNe := Lib.hid (show ¬ (Value.slice A' l.length c').ownBlock = some g from hF1.2.2)
          have HBx := Lib.hid ((hbx.alloc (.cells #[.string nm, .string vl] 47)).drew)
          have HNb := Lib.hid (show ¬ (Value.slice A' l.length c').ownBlock = some wr.heap.size from fun e => by
            have := (HF.out.1.2.1.lt _ e).2
            omega)
          have HBB := Lib.hid (show B ≤ ((w1.alloc (.cells #[.string nm, .string vl] 47)).drew).heap.size by
            have := hS1.size
            simp; omega)
          have hgl := hF1.1.lt
          have hbl := hbx.lt
          clear hF1 hS1 hfo hsm
          go_wp2_with fail
          go_region_law
            ((refine step_push (by rfl) _ _ 22 47 (by rfl) Tryd.underlying22 _ 2 32 infoFieldB rfl (by decide) (by decide) B l.length _ (fldCells l) (by rfl) HOwn.out w1.heap.size #[.string nm, .string vl] (by rfl) HBlk.out rfl (by simp [Value.oneCell']) (by omega) HBB.out ?_; intro r cap w2 hown2 hs2 hr2; have hb2 := HKb.out.sm hs2 HNe.out; have cg2 := hb2.at 0 (v := .slice A' l.length c') rfl; have zg2 := hb2.fz 0; have hbx2 := HBx.out.sm hs2 HNb.out; have d2 := hbx2.at 0 (v := .string nm) rfl; have d3 := hbx2.at 1 (v := .string vl) rfl))
          all_goals
            have hne : r ≠ g := by
              rcases hr2 with e | e
              · rintro rfl; exact HNe.out e
              · simp at e; omega
            have hs3 := (Sm.refl (fun x => x = g) w2).set1 0 (.slice (some ⟨r, 0, none⟩) (l.length + 1) cap)
            have hb3 : Bk (w2.setCell ⟨g, 0, none⟩ (.slice (some ⟨r, 0, none⟩) (l.length + 1) cap)) g 69 #[.slice (some ⟨r, 0, none⟩) (l.length + 1) cap] := (hb2.set 0 _).eq (by rfl)
            have ho3 := own_row_sm hown2 hs3 (fun b hb => by injection hb with hb; subst hb; exact hne)
            have hF3 : IsFields (w2.setCell ⟨g, 0, none⟩ (.slice (some ⟨r, 0, none⟩) (l.length + 1) cap)) B g 69 (.slice (some ⟨r, 0, none⟩) (l.length + 1) cap) (l ++ [add[k]]) :=
              ⟨hb3, by rw [fldCells_snoc, HX.out.2.1, HX.out.2.2, List.length_append]; exact ho3, by simp [Value.ownBlock]; exact hne⟩
            have hS2 := ((HR.out.2.1.alloc (.cells #[.string nm, .string vl] 47)).drew).trans hs2 (fun b hb e => by
              rcases HR.out.2.2 with f | ⟨q, f, hq⟩
              · exact Or.inr (f ▸ e)
              · rw [f] at e; injection e with e; omega)
            have hS3 := hS2.trans hs3 (fun b _ e => Or.inl e)
            have hf3 : Follows w v0 (.slice (some ⟨r, 0, none⟩) (l.length + 1) cap) := by
              rcases hr2 with e | e
              · rcases HR.out.2.2 with f | ⟨q, f, hq⟩
                · exact Or.inl (by rw [← f, e]; rfl)
                · rw [e] at f; injection f with f; exact Or.inr ⟨r, rfl, by omega⟩
              · have := HR.out.2.1.size
                simp at e
                exact Or.inr ⟨r, rfl, by omega⟩
            go_wp2_with fail
            exact ⟨⟨k + 1, _, l ++ [add[k]], by omega, by go_num, by rw [HL.out, HST.out]; simp; omega, by simp; omega, hF3, hS3, hf3⟩, by simp [intOf]; omega⟩
    · have hend : addL cur add = (l, add.length, 0) := by
        have e : k = add.length := by omega
        rw [HL.out, e, List.drop_length]; simp [addL]
      have HE := Lib.hid hend
      clear hend
      go_wp2_with fail
      exact bodyPost_ret (v := .tuple #[.int .i64 add.length, .int .i64 0]) (by simp [results, Tryd.results12, go_sem]) rfl
        ⟨v, by rw [HE.out], by rw [HE.out]; exact HF.out.1, by rw [HE.out]; exact hl, HF.out.2.1, HF.out.2.2⟩

def OfPost (w : World) (add : List Fld) (e : Ending) (w' : World) : Prop :=
  ∃ g v, e = .returned (.pointer (some ⟨g, 0, none⟩)) ∧ w.heap.size ≤ g ∧ IsFields w' w.heap.size g 69 v (addL [] add).1 ∧ (addL [] add).1.length ≤ 24 ∧ Sm No w w'

set_option maxHeartbeats 1000000 in
theorem of_any (w : World) (add : List Fld) (A : Option Addr) (c : Nat) (hA : FRow w A add) (hshort : Short add) (hadd : add.length ≤ 1000000) :
    Calls Tryd.prog 10 #[.slice A add.length c] w (OfPost w add) := by
  have hs0 := (Sm.refl No w).alloc (.cells #[.slice none 0 0] 69)
  have HA := Lib.hid hA
  have h0 : IsFields (w.alloc (.cells #[.slice none 0 0] 69)) w.heap.size w.heap.size 69 (.slice none 0 0) [] :=
    ⟨Bk.new w _ _, World.ownsRow_nil _ _ _ 2, by simp [Value.ownBlock]⟩
  have hcon := add_any (w.alloc (.cells #[.slice none 0 0] 69)) w.heap.size w.heap.size (.slice none 0 0) [] add A c h0 (by simp) (hA.sm hs0 (fun _ _ h => h)) (fun hl a ha => by
    obtain ⟨bb, off, e, hb, _⟩ := HA.out 0 hl
    rw [e] at ha; injection ha with ha; subst ha
    rintro (e | e)
    · dsimp only at e; omega
    · simp [Value.ownBlock] at e) hshort hadd (by simp)
  have HC := Lib.hid hcon
  have HS := Lib.hid hs0
  clear hA h0 hcon hs0
  go_enter Tryd.func10, Tryd.ntmps10
  go_wp2_with fail
  refine HC.out.mono ?_
  rintro e w2 ⟨v, rfl, hF, hl, hs, hf⟩
  have HF := Lib.hid (And.intro hF (And.intro hl hs))
  clear hF hl hs hf
  go_wp2_with fail
  go_ret
  exact ⟨w.heap.size, v, rfl, Nat.le_refl _, HF.out.1, HF.out.2.1, HS.out.trans HF.out.2.2 (fun b hb e => by
    rcases e with e | e
    · omega
    · simp [Value.ownBlock] at e)⟩
end Go.Proofs.YtnopbhboamembaaDoor
