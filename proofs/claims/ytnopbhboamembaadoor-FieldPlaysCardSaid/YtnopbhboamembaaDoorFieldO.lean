/- field's Drop. -/
import Derived.Test.YtnopbhboamembaaDoorFieldN
import Derived.Test.YtnopbhboamembaaDoorClear
namespace Go.Proofs.YtnopbhboamembaaDoor
open Go.RowKit Go.Proofs

/-- What Drop leaves. -/
def leftL (names : List ByteArray) (l : List Fld) : List Fld := l.filter fun x => !amongL names x
theorem leftL_len (names : List ByteArray) (l : List Fld) : (leftL names l).length ≤ l.length := List.length_filter_le _ _
theorem leftL_snoc (names : List ByteArray) (l : List Fld) (k : Nat) (h : k < l.length) : leftL names (l.take (k + 1)) = if amongL names l[k] = true then leftL names (l.take k) else leftL names (l.take k) ++ [l[k]] := by
  unfold leftL
  rw [List.take_succ_eq_append_getElem h, List.filter_append]
  cases hq : amongL names l[k] <;> simp [hq]
theorem leftL_all {names : List ByteArray} {l : List Fld} (h : ∀ x ∈ l, amongL names x = false) : leftL names l = l := by
  unfold leftL
  exact List.filter_eq_self.2 fun x hx => by simp [h x hx]

theorem fldCells_set (l : List Fld) (k : Nat) (h : k < l.length) (x : Fld) : ((fldCells l).set (k * 2) (.string x.1)).set (k * 2 + 1) (.string x.2) = fldCells (l.set k x) := by
  induction l generalizing k with
  | nil => exact absurd h (by simp)
  | cons y l ih =>
    cases k with
    | zero => rfl
    | succ k =>
      have e1 : (k + 1) * 2 = k * 2 + 1 + 1 := by omega
      have e2 : fldCells (y :: l) = .string y.1 :: .string y.2 :: fldCells l := rfl
      have e3 : fldCells ((y :: l).set (k + 1) x) = .string y.1 :: .string y.2 :: fldCells (l.set k x) := rfl
      rw [e1, e2, e3, ← ih k (by simpa using h)]
      rfl
theorem fldCells_take (l : List Fld) (k : Nat) : (fldCells l).take (k * 2) = fldCells (l.take k) := by
  induction l generalizing k with
  | nil => simp [fldCells]
  | cons y l ih =>
    cases k with
    | zero => simp [fldCells]
    | succ k =>
      have e1 : (k + 1) * 2 = k * 2 + 1 + 1 := by omega
      have e2 : fldCells (y :: l) = .string y.1 :: .string y.2 :: fldCells l := rfl
      have e3 : fldCells ((y :: l).take (k + 1)) = .string y.1 :: .string y.2 :: fldCells (l.take k) := rfl
      rw [e1, e2, e3, ← ih k]
      rfl

def DelPost (w : World) (B : Nat) (v : Value) (names : List ByteArray) (l : List Fld) (e : Ending) (w' : World) : Prop :=
  ∃ v', e = .returned v' ∧ OwnF w' B v' (leftL names l) ∧ (v'.ownBlock = v.ownBlock) ∧ Sm (fun b => v.ownBlock = some b) w w'

/-- Behind j looks: i of the fields stay. -/
def DelRel (w : World) (B gb cap : Nat) (names : List ByteArray) (l : List Fld) (i j : Value) (wr : World) : Prop :=
  ∃ (k : Nat) (m : List Fld), k ≤ l.length ∧ 0 < k ∧ j = .int .i64 k ∧ i = .int .i64 (leftL names (l.take k)).length ∧ (leftL names (l.take k)).length < k ∧ m.length = l.length ∧ m.take (leftL names (l.take k)).length = leftL names (l.take k) ∧ m.drop k = l.drop k ∧
    wr.ownsRow B 47 2 (.slice (some ⟨gb, 0, none⟩) l.length cap) l.length (fldCells m) ∧ Sm (fun b => b = gb) w wr

theorem zeroField (w : World) : (zeroValue 47).run Tryd.prog w = .ok (.agg #[.string ⟨#[]⟩, .string ⟨#[]⟩]) w := by kernel_rfl

theorem Names.sm {S : Nat → Prop} {w w' : World} {gn : Nat} {names : List ByteArray} (h : Names w gn names) (hs : Sm S w w') (hg : ¬ S gn) (hb : ∀ A c, w.cell? ⟨gn, 0, none⟩ = some (.slice (some A) names.length c) → ¬ S A.block) : Names w' gn names := by
  obtain ⟨A, c, hb0, hA, hl⟩ := h
  refine ⟨A, c, hb0.sm hs hg, hA.sm hs (fun a ha => hb a c ?_), fun a ha => ⟨Nat.lt_of_lt_of_le (hl.1 a ha).1 hs.size, (hl.1 a ha).2⟩, hl.2⟩
  have := hb0.at 0 (v := .slice A names.length c) rfl
  rw [ha] at this
  exact this

/-- The names lie apart from block g. -/
def Apart (w : World) (gn g : Nat) : Prop := gn ≠ g ∧ ∀ A n c, w.cell? ⟨gn, 0, none⟩ = some (.slice (some A) n c) → A.block ≠ g

set_option maxRecDepth 100000 in
set_option maxHeartbeats 8000000 in
theorem del_any (w : World) (B : Nat) (v : Value) (gn : Nat) (names : List ByteArray) (l : List Fld) (hO : OwnF w B v l) (hN : Names w gn names) (hap : ∀ b, v.ownBlock = some b → Apart w gn b) (hl : l.length ≤ 1000000) (hsh : Short l) :
    Calls Tryd.prog 39 #[v, .func (.func 40) #[] #[.pointer (some ⟨gn, 0, none⟩)]] w (DelPost w B v names l) := by
  obtain ⟨A, c, rfl, hR⟩ := hO.row
  have HO := Lib.hid (And.intro hO (And.intro hN (And.intro hap hsh)))
  have HI := Lib.hid (indexF_any w A c gn names l hN hR hl hsh)
  clear hO hN hap hsh hR
  go_enter Tryd.func39, Tryd.ntmps39
  go_wp2_with fail
  refine HI.out.mono ?_
  rintro e w1 ⟨r, rfl, hfirst, hs1⟩
  rcases hfirst with ⟨rfl, hall⟩ | ⟨k, rfl, hk, hyes, hno⟩
  · have hid := leftL_all hall
    have H1 := Lib.hid (And.intro hid hs1)
    clear hid hs1 hall
    go_wp2_with fail
    go_ret
    exact ⟨_, rfl, by rw [H1.out.1]; exact HO.out.1.no H1.out.2, rfl, H1.out.2.any _⟩
  · rcases own_row_form HO.out.1 with ⟨h1, h2, _⟩ | ⟨gb, cap, hv, hob, hBg, hgl, hcap, _, _⟩
    · exact absurd h2 (by omega)
    · injection hv with hv1 _ hv2
      subst hv1 hv2
      have hl1 := leftL_snoc names l k hk
      rw [if_pos hyes, leftL_all hno] at hl1
      have hlen : (leftL names (l.take (k + 1))).length = k := by rw [hl1]; simp; omega
      have hRel : DelRel w B gb c names l (.int .i64 k) (.int .i64 ((k + 1 : Nat) : Int)) w1 :=
        ⟨k + 1, l, hk, by omega, rfl, by rw [hlen], by rw [hlen]; omega, rfl, by rw [hlen, hl1], rfl, own_row_sm HO.out.1 hs1 (fun _ _ h => h), hs1.any _⟩
      have HR := Lib.hid hRel
      have k1 : (0 : Int) ≤ (k : Int) := by omega
      have k2 : (k : Int) < (l.length : Int) := by omega
      clear hl1 hlen hRel hs1 hyes hno hob
      go_wp2_with fail
      go_loopw [5, 6] (fun i j wr => DelRel w B gb c names l i j wr) (fun _ j _ => l.length - (intOf j).toNat)
      case atStart => exact HR.out
      case round =>
        obtain ⟨j, m, hj, hj0, rfl, rfl, hij, hml, hmt, hmd, hOw, hsm⟩ := hrel
        obtain ⟨i, hi⟩ : ∃ i, (leftL names (l.take j)).length = i := ⟨_, rfl⟩
        rw [hi] at hij hmt ⊢
        have HM := Lib.hid (And.intro hml (And.intro hmt (And.intro hmd (And.intro hOw (And.intro hsm hi)))))
        clear hml hmt hmd hOw hsm hi
        by_cases hlt : j < l.length
        · obtain ⟨⟨nm, vl⟩, hx⟩ : ∃ x, l[j] = x := ⟨_, rfl⟩
          have hmj : m[j]? = some (nm, vl) := by
            have e1 : m[j]? = (m.drop j)[0]? := by simp
            have e2 : l[j]? = (l.drop j)[0]? := by simp
            rw [e1, HM.out.2.2.1, ← e2, List.getElem?_eq_getElem hlt, hx]
          have hjm : j < m.length := by rw [HM.out.1]; exact hlt
          have hmj2 : m[j] = (nm, vl) := by rw [List.getElem?_eq_getElem hjm] at hmj; injection hmj
          obtain ⟨q0, q1⟩ := fldCells_at m j hjm
          rw [hmj2] at q0 q1
          have r0 := (World.ownsRow.cellAt HM.out.2.2.2.1 (j * 2) (by omega)).trans q0
          have r1 := (World.ownsRow.cellAt HM.out.2.2.2.1 (j * 2 + 1) (by omega)).trans q1
          obtain ⟨s0, _⟩ := HO.out.2.2.2 _ (List.getElem_mem hlt)
          rw [hx] at s0
          dsimp only at s0 r0 r1
          have k3 : (0 : Int) ≤ (j : Int) := by omega
          have k4 : (j : Int) < (l.length : Int) := by omega
          have hNr : Names wr gn names := HO.out.2.1.sm HM.out.2.2.2.2.1 (fun e => (HO.out.2.2.1 gb rfl).1 e) (fun A c' hc e => (HO.out.2.2.1 gb rfl).2 A _ c' hc e)
          obtain ⟨f, hf⟩ : ∃ f, amongL names (nm, vl) = f := ⟨_, rfl⟩
          have hsa := (Sm.refl No wr).alloc (.cells #[.string nm, .string vl] 47)
          have hba := Bk.new wr 47 #[.string nm, .string vl]
          have HD := Lib.hid ((hNr.no hsa).call (nm, vl) s0)
          rw [hf] at HD
          have HX := Lib.hid (And.intro hx (And.intro hf (And.intro hsa hba)))
          have hgr : gb < wr.heap.size := Nat.lt_of_lt_of_le hgl HM.out.2.2.2.2.1.size
          clear hx hmj hmj2 q0 q1 hNr hf hsa hba
          go_wp2_with fail
          refine HD.out.mono ?_
          rintro e w2 ⟨rfl, hs2⟩
          have hsm2 := HX.out.2.2.1.trans hs2 (fun _ _ h => h)
          have hOw2 := own_row_sm HM.out.2.2.2.1 hsm2 (fun _ _ h => h)
          have hb2 := HX.out.2.2.2.sm hs2 (fun h => h)
          have hsm3 := HM.out.2.2.2.2.1.trans hsm2 (fun _ _ h => h.elim)
          have hl1 := leftL_snoc names l j hlt
          rw [HX.out.1, HX.out.2.1] at hl1
          cases f
          · have hi1 : i < m.length := by rw [HM.out.1]; omega
            have hlen : (leftL names (l.take (j + 1))).length = i + 1 := by rw [hl1]; simp; exact HM.out.2.2.2.2.2
            have c0 := hb2.at 0 (v := .string nm) rfl
            have c1 := hb2.at 1 (v := .string vl) rfl
            obtain ⟨q2, q3⟩ := fldCells_at m i hi1
            have d0 := (World.ownsRow.cellAt hOw2 (i * 2) (by omega)).trans q2
            have d1 := (World.ownsRow.cellAt hOw2 (i * 2 + 1) (by omega)).trans q3
            have z0 := World.ownsRow.frozenAt hOw2 (i * 2)
            have z1 := World.ownsRow.frozenAt hOw2 (i * 2 + 1)
            have hst := ((World.ownsRow.stored hOw2 (i * 2) (.string nm)).1.stored (i * 2 + 1) (.string vl)).1
            rw [fldCells_set m i hi1 (nm, vl)] at hst
            have hRel : DelRel w B gb c names l (.int .i64 ((i + 1 : Nat) : Int)) (.int .i64 ((j + 1 : Nat) : Int)) ((w2.setCell ⟨gb, i * 2, none⟩ (.string nm)).setCell ⟨gb, i * 2 + 1, none⟩ (.string vl)) := by
              refine ⟨j + 1, m.set i (nm, vl), hlt, by omega, rfl, by rw [hlen], by rw [hlen]; omega, by simp [HM.out.1], ?_, ?_, hst, (hsm3.set1 _ _).set1 _ _⟩
              · rw [hlen, List.take_succ_eq_append_getElem (by simp; exact hi1), hl1, List.take_set_of_le (by omega), HM.out.2.1]
                simp
              · rw [List.drop_set_of_lt (by omega)]
                have e1 : m.drop (j + 1) = (m.drop j).drop 1 := by rw [List.drop_drop]
                rw [e1, HM.out.2.2.1, List.drop_drop]
            have HR2 := Lib.hid hRel
            have k5 : (0 : Int) ≤ (i : Int) := by omega
            have k6 : (i : Int) < (l.length : Int) := by omega
            clear hlen q2 q3 hst hRel hOw2 hb2 hsm2 hsm3 hl1 hs2
            go_wp2_with fail
            refine ⟨?_, by simp [intOf]; omega⟩
            repeat apply Exists.intro
            exact ⟨HR2.out, rfl⟩
          · have hRel : DelRel w B gb c names l (.int .i64 (i : Int)) (.int .i64 ((j + 1 : Nat) : Int)) w2 := by
              rw [if_pos rfl] at hl1
              refine ⟨j + 1, m, hlt, by omega, rfl, by rw [hl1, HM.out.2.2.2.2.2], by rw [hl1, HM.out.2.2.2.2.2]; omega, HM.out.1, by rw [hl1, HM.out.2.2.2.2.2]; exact HM.out.2.1, ?_, hOw2, hsm3⟩
              have e1 : m.drop (j + 1) = (m.drop j).drop 1 := by rw [List.drop_drop]
              rw [e1, HM.out.2.2.1, List.drop_drop]
            have HR2 := Lib.hid hRel
            clear hRel hOw2 hb2 hsm2 hsm3 hl1 hs2
            go_wp2_with fail
            refine ⟨?_, by simp [intOf]; omega⟩
            repeat apply Exists.intro
            exact ⟨HR2.out, rfl⟩
        · have he : leftL names (l.take j) = leftL names l := by rw [List.take_of_length_le (by omega)]
          have hx1 : (fldCells m).take (i * 2) = fldCells (leftL names l) := by rw [fldCells_take, HM.out.2.1, he]
          have hx2 : (leftL names l).length = i := by rw [← he]; exact HM.out.2.2.2.2.2
          have HX := Lib.hid (And.intro hx1 hx2)
          have k5 : (0 : Int) ≤ (i : Int) := by omega
          have k6 : (i : Int) < (l.length : Int) := by omega
          have k7 : i < l.length := by omega
          clear he hx1 hx2
          go_wp2_with (refine wpList_clear_own rfl _ 22 47 rfl Tryd.underlying22 _ 2 zeroField rfl (by decide) (by simp [Value.cells, Value.oneCell']) B l.length c gb (fldCells m) HM.out.2.2.2.1 i k7 _ rfl ?_; intro w3 hown3 hs3)
          go_ret
          refine ⟨_, rfl, ?_, rfl, ?_⟩
          · rw [OwnF, HX.out.2, ← HX.out.1]; exact hown3
          · exact (HM.out.2.2.2.2.1.trans hs3 (fun _ _ h => h)).mono (fun b _ h => by rw [h]; rfl)

def DropPost (w : World) (B g : Nat) (v : Value) (names : List ByteArray) (l : List Fld) (e : Ending) (w' : World) : Prop :=
  ∃ v', e = .returned (.int .i64 (l.length - (leftL names l).length : Nat)) ∧ IsFields w' B g 69 v' (leftL names l) ∧ v'.ownBlock = v.ownBlock ∧ Sm (TouchF g v) w w'

set_option maxRecDepth 100000 in
set_option maxHeartbeats 2000000 in
theorem drop_any (w : World) (B g : Nat) (v : Value) (l : List Fld) (A : Option Addr) (c : Nat) (names : List ByteArray) (hF : IsFields w B g 69 v l) (hl : l.length ≤ 1000000) (hsh : Short l) (hA : SRow w A names)
    (hAb : ∀ a, A = some a → a.block < w.heap.size ∧ ¬ TouchF g v a.block) (hnl : names.length ≤ 1000000) (hns : ∀ s ∈ names, s.size ≤ 1000000) :
    Calls Tryd.prog 20 #[.pointer (some ⟨g, 0, none⟩), .slice A names.length c] w (DropPost w B g v names l) := by
  have hs1 := (Sm.refl No w).alloc (.cells #[.slice A names.length c] 39)
  have hb1 := Bk.new w 39 #[.slice A names.length c]
  have hN : Names (w.alloc (.cells #[.slice A names.length c] 39)) w.heap.size names :=
    ⟨A, c, hb1, hA.no hs1, fun a ha => by have := (hAb a ha).1; exact ⟨by simp; omega, by omega⟩, hnl, hns⟩
  have hF1 := hF.no hs1
  have hap : ∀ b, v.ownBlock = some b → Apart (w.alloc (.cells #[.slice A names.length c] 39)) w.heap.size b := fun b hb =>
    ⟨fun e => by have := (hF.lt).2 b hb; omega, fun A' n c' hc e => by
      rw [hb1.at 0 (v := .slice A names.length c) rfl] at hc
      injection hc with hc
      injection hc with hc1 _ _
      exact (hAb A' hc1).2 (Or.inr (e ▸ hb))⟩
  have HL := Lib.hid (len_any _ B g v l hF1 hl)
  have HD := Lib.hid (del_any _ B v w.heap.size names l hF1.2.1 hN hap hl hsh)
  have cg := hF1.1.at 0 (v := v) rfl
  obtain ⟨A2, c2, rfl, _⟩ := hF1.row
  have HF := Lib.hid (And.intro hF1 (And.intro hs1 hF.lt))
  have hgs : g < w.heap.size + 1 := by have := hF.lt.1; omega
  clear hs1 hb1 hN hF1 hap hF hA hAb hns hsh
  go_enter Tryd.func20, Tryd.ntmps20
  go_wp2_with fail
  refine HL.out.mono ?_
  rintro e w1 ⟨rfl, rfl⟩
  go_wp2_with fail
  refine HD.out.mono ?_
  rintro e w2 ⟨v', rfl, hO2, hob, hs2⟩
  have hg2 : ¬ (Value.slice A2 l.length c2).ownBlock = some g := HF.out.1.2.2
  have hb2 := HF.out.1.1.sm hs2 hg2
  have cg2 := hb2.at 0 (v := .slice A2 l.length c2) rfl
  have zg2 := hb2.fz 0
  have hb3 : Bk (w2.setCell ⟨g, 0, none⟩ v') g 69 #[v'] := (hb2.set 0 v').eq (by rfl)
  have hs3 := (Sm.refl (fun x => x = g) w2).set1 0 v'
  have hO3 := own_row_sm hO2 hs3 (fun b hb e => hg2 (by rw [← hob, hb, e]))
  have hF3 : IsFields (w2.setCell ⟨g, 0, none⟩ v') B g 69 v' (leftL names l) := ⟨hb3, hO3, by rw [hob]; exact hg2⟩
  have hS3 : Sm (TouchF g (.slice A2 l.length c2)) w (w2.setCell ⟨g, 0, none⟩ v') :=
    ((HF.out.2.1.any _).trans hs2 (fun b _ h => Or.inr h)).trans hs3 (fun b _ h => Or.inl h)
  have hll := leftL_len names l
  have HL3 := Lib.hid (len_any _ B g v' _ hF3 (by omega))
  obtain ⟨A3, c3, rfl, _⟩ := hF3.row
  have H3 := Lib.hid (And.intro hF3 (And.intro hS3 hob))
  have hr : ((l.length : Int) - ((leftL names l).length : Int)) = ((l.length - (leftL names l).length : Nat) : Int) := by omega
  have HR := Lib.hid hr
  clear hb2 hb3 hs3 hO3 hF3 hS3 hO2 hs2 hob hr
  obtain ⟨n3, hn3⟩ : ∃ n, (leftL names l).length = n := ⟨_, rfl⟩
  rw [hn3] at hll HL3 HR H3
  rw [hn3]
  have HN3 := Lib.hid hn3
  clear hn3
  go_wp2_with fail
  refine HL3.out.mono ?_
  rintro e w4 ⟨rfl, rfl⟩
  go_wp2_with fail
  go_ret
  refine ⟨_, by rw [HN3.out]; exact ret_i HR.out, H3.out.1, H3.out.2.2, H3.out.2.1⟩
end Go.Proofs.YtnopbhboamembaaDoor
