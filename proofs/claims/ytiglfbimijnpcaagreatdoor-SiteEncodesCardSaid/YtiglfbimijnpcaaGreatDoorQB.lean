/- A line as a field: the twin's Parse. -/
/- Fields in memory; field's Add and Of. -/
/- field's Add. -/
/- field's Values. -/
/- field's Get. -/
/- usherlaw10.known. -/
/- The walk of FieldParses. -/
import Derived.Test.YtiglfbimijnpcaaGreatDoorQF
import Derived.Test.YtiglfbimijnpcaaGreatDoorQO
import Derived.Deep.RegionLaw
import Derived.Test.YtiglfbimijnpcaaGreatDoorQTexts
namespace Go.Proofs.YtiglfbimijnpcaaGreatDoor
open Go.RowKit Go.Proofs

theorem idx_found {l : List UInt8} {c : UInt8} {k : Nat} (h0 : ∀ j, j < k → l[j]? ≠ some c) (h1 : l[k]? = some c) : Lib.indexByte l c = k := by
  rcases index_cases l c with h | ⟨i, h⟩
  · exact absurd h1 (Lib.indexByte_none h k)
  · obtain ⟨a, b⟩ := Lib.indexByte_some h
    have : i = k := by
      rcases Nat.lt_trichotomy i k with g | g | g
      · exact absurd a (h0 i g)
      · exact g
      · exact absurd h1 (b k g)
    rw [h, this]
theorem idx_none {l : List UInt8} {c : UInt8} (h0 : ∀ j, j < l.length → l[j]? ≠ some c) : Lib.indexByte l c = -1 := by
  rcases index_cases l c with h | ⟨i, h⟩
  · exact h
  · exact absurd (Lib.indexByte_some h).1 (h0 i (index_lt l c i h))

theorem rIs_say {n v : ByteArray} {r : Bool} (h : Hid (isF n.data.toList v.data.toList = r)) (hn : n.size ≤ 1000000) (hv : v.size ≤ 1000000) (w : World) :
    Calls Tryz.prog 18 #[.agg #[.string n, .string v]] w fun e w' => e = .returned (.bool r) ∧ Sm No w w' := by
  rw [← h.out]; exact rIs_any n v hn hv w

theorem parseL_long {l : List UInt8} (h : 256 < l.length) : parseL l = (9, [], []) := by unfold parseL; rw [if_pos h]
theorem parseL_none {l : List UInt8} (h : ¬ 256 < l.length) (h2 : Lib.indexByte l 58 = -1) : parseL l = (8, [], []) := by unfold parseL; rw [if_neg h, if_pos h2]
theorem parseL_at {l : List UInt8} {i : Nat} (h : ¬ 256 < l.length) (h2 : Lib.indexByte l 58 = i) : parseL l = if isF (l.take i) (trimL (l.drop (i + 1))) = true then (0, l.take i, trimL (l.drop (i + 1))) else (8, [], []) := by
  unfold parseL; rw [if_neg h, if_neg (by omega), h2]; rfl

def ColRel (s : ByteArray) (i : Value) : Prop := ∃ k : Nat, k ≤ s.size ∧ i = .int .i64 k ∧ ∀ j, j < k → s.data.toList[j]? ≠ some 58

set_option maxHeartbeats 2000000 in
theorem rParse_any (s : ByteArray) (hs : s.size ≤ 1000000) (w : World) :
    Calls Tryz.prog 130 #[.string s] w fun e w' => e = .returned (parseV (parseL s.data.toList)) ∧ Sm No w w' := by
  have hlen : s.data.toList.length = s.size := by simp
  by_cases h1 : 256 < s.size
  · rw [parseL_long (by omega)]
    clear hlen
    unfold parseV fieldV
    go_enter Tryz.func130, Tryz.ntmps130
    go_wp2_with fail
    exact bodyPost_ret (v := .tuple #[.agg #[.string ⟨#[]⟩, .string ⟨#[]⟩], .int .i64 9]) (by simp [results, Tryz.results130, go_sem]) rfl ⟨rfl, (Sm.refl No w).alloc _⟩
  · have HL := Lib.hid hlen
    clear hlen
    have hb0 := Bk.new w 65 #[.string ⟨#[]⟩, .string ⟨#[]⟩]
    obtain ⟨w0, hw⟩ : ∃ w0, w.alloc (.cells #[.string ⟨#[]⟩, .string ⟨#[]⟩] 65) = w0 := ⟨_, rfl⟩
    have hs0 := (Sm.refl No w).alloc (.cells #[.string ⟨#[]⟩, .string ⟨#[]⟩] 65)
    rw [hw] at hb0 hs0
    have HW := Lib.hid hw
    clear hw
    obtain ⟨P, hP⟩ : ∃ P, parseL s.data.toList = P := ⟨_, rfl⟩
    rw [hP]
    have HP := Lib.hid hP
    clear hP
    go_enter Tryz.func130, Tryz.ntmps130
    go_wp2_with fail
    rw [HW.out]
    go_loop [4] (fun i => ColRel s i) (fun i => s.size - (intOf i).toNat)
    case atStart => exact ⟨0, Nat.zero_le _, rfl, fun j hj => absurd hj (by omega)⟩
    case round =>
      obtain ⟨k, hk, rfl, hno⟩ := hrel
      have HN := Lib.hid hno
      clear hno
      by_cases hlt : k < s.size
      · by_cases hq : s[k] = 58
        · have h2 : Lib.indexByte s.data.toList 58 = k := idx_found HN.out (by rw [← hq]; simp [hlt, ByteArray.getElem_eq_getElem_data])
          have hq2 : ((s[k].toNat : Int) == 58) = true := by simp [hq]
          have hp := parseL_at (by rw [HL.out]; exact h1) h2
          rw [HP.out] at hp
          have hA : (s.extract 0 k).data.toList = s.data.toList.take k := by rw [Lib.extract_data]; simp
          have hB : (s.extract (k + 1) s.size).data.toList = s.data.toList.drop (k + 1) := by rw [Lib.extract_data, List.take_of_length_le (by simp)]
          rw [← hA, ← hB] at hp
          have hr := trimL_le (s.extract (k + 1) s.size).data.toList
          have hR : (⟨(trimL (s.extract (k + 1) s.size).data.toList).toArray⟩ : ByteArray).data.toList = trimL (s.extract (k + 1) s.size).data.toList := rfl
          have hrs : (⟨(trimL (s.extract (k + 1) s.size).data.toList).toArray⟩ : ByteArray).size ≤ 1000000 := by
            show (trimL (s.extract (k + 1) s.size).data.toList).toArray.size ≤ 1000000
            rw [hB] at hr
            simp only [List.size_toArray, hB]
            simp at hr; omega
          have hbs : (s.extract 0 k).size ≤ 1000000 := by simp; omega
          have hbs2 : (s.extract (k + 1) s.size).size ≤ 1000000 := by simp; omega
          obtain ⟨r, hr'⟩ : ∃ r, (⟨(trimL (s.extract (k + 1) s.size).data.toList).toArray⟩ : ByteArray) = r := ⟨_, rfl⟩
          rw [hr'] at hR hrs
          rw [← hR] at hp
          have HR := Lib.hid hr'
          have HPP := Lib.hid hp
          have hk2 : k + 1 ≤ s.size := hlt
          have b1 : (0 : Int) ≤ (k : Int) := by omega
          have b2 : (k : Int) ≤ (s.size : Int) := by omega
          have b3 : (0 : Int) ≤ (k : Int) + 1 := by omega
          have b4 : (k : Int) + 1 ≤ (s.size : Int) := by omega
          have e1 : IntKind.i64.wrap ((k : Int) + 1) = (k : Int) + 1 := IntWalk.i64_in _ (by omega)
          have e2 : ((k : Int) + 1).toNat = k + 1 := by omega
          clear hq h2 hp hA hB hr hR hr'
          go_wp2_with fail
          go_region_held3 (fun w' => True) (exact trivial)
            ((go_at_call 29; (with_reducible refine (rTrim_say HR hbs2 _).mono ?_); rintro e w4 ⟨rfl, rfl⟩))
          all_goals
            have hb1 := (hb0.alloc (.cells #[.string (s.extract 0 k), .string r] 65)).drew
            have hb2 := (Bk.new w0 65 #[.string (s.extract 0 k), .string r]).drew
            have hs1 := (hs0.alloc (.cells #[.string (s.extract 0 k), .string r] 65)).drew
            clear e1 e2
            generalize (w0.alloc (.cells #[.string (s.extract 0 k), .string r] 65)).drew = w1 at hb1 hb2 hs1 ⊢
            obtain ⟨f, hf⟩ : ∃ f, isF (s.extract 0 k).data.toList r.data.toList = f := ⟨_, rfl⟩
            have HF := Lib.hid hf
            clear hf
            have a0 := hb2.at 0 (v := .string (s.extract 0 k)) rfl
            have a1 := hb2.at 1 (v := .string r) rfl
            go_wp2_with fail
            refine (rIs_say HF hbs hrs _).mono ?_
            rintro e w3 ⟨rfl, hs4⟩
            have hb3 := hb1.sm hs4 (fun h => h)
            have hb4 := hb2.sm hs4 (fun h => h)
            have hs5 := hs1.trans hs4 (fun _ _ h => h)
            have c0 := hb3.at 0 (v := .string ⟨#[]⟩) rfl
            have c1 := hb3.at 1 (v := .string ⟨#[]⟩) rfl
            have z0 := hb3.fz 0
            have z1 := hb3.fz 1
            cases f
            · go_wp2_with fail
              rw [HPP.out, HF.out]
              exact bodyPost_ret (v := .tuple #[.agg #[.string ⟨#[]⟩, .string ⟨#[]⟩], .int .i64 8]) (by simp [results, Tryz.results130, go_sem, c0, c1]) rfl
                ⟨rfl, ((hs5).setN (Nat.le_refl _) _ _).setN (Nat.le_refl _) _ _⟩
            · have d0 := hb4.at 0 (v := .string (s.extract 0 k)) rfl
              have d1 := hb4.at 1 (v := .string r) rfl
              go_wp2_with fail
              rw [HPP.out, HF.out]
              exact bodyPost_ret (v := .tuple #[.agg #[.string (s.extract 0 k), .string r], .int .i64 0]) (by simp [results, Tryz.results130, go_sem, c0, c1]) rfl
                ⟨rfl, ((hs5).setN (Nat.le_refl _) _ _).setN (Nat.le_refl _) _ _⟩
        · have hq2 : ((s[k].toNat : Int) == 58) = false := by
            simp; intro h; exact hq (UInt8.toNat_inj.mp (by have : (58 : UInt8).toNat = 58 := rfl; omega))
          have HN2 := Lib.hid (show ∀ j, j < k + 1 → s.data.toList[j]? ≠ some 58 from fun j hj e => by
            by_cases g : j < k
            · exact HN.out j g e
            · obtain rfl : j = k := by omega
              exact hq (by simpa [hlt, ByteArray.getElem_eq_getElem_data] using e))
          clear hq
          go_wp2_with fail
          exact ⟨⟨k + 1, by omega, by go_num, HN2.out⟩, by simp [intOf]; omega⟩
      · have h2 : Lib.indexByte s.data.toList 58 = -1 := idx_none (fun j hj => HN.out j (by rw [HL.out] at hj; omega))
        have hp := parseL_none (by rw [HL.out]; exact h1) h2
        rw [HP.out] at hp
        have HPP := Lib.hid hp
        have c0 := hb0.at 0 (v := .string ⟨#[]⟩) rfl
        have c1 := hb0.at 1 (v := .string ⟨#[]⟩) rfl
        have z0 := hb0.fz 0
        have z1 := hb0.fz 1
        clear h2 hp
        go_wp2_with fail
        rw [HPP.out]
        exact bodyPost_ret (v := .tuple #[.agg #[.string ⟨#[]⟩, .string ⟨#[]⟩], .int .i64 8]) (by simp [results, Tryz.results130, go_sem, c0, c1]) rfl
          ⟨rfl, ((hs0).setN (Nat.le_refl _) _ _).setN (Nat.le_refl _) _ _⟩
end Go.Proofs.YtiglfbimijnpcaaGreatDoor

namespace Go.Proofs.YtiglfbimijnpcaaGreatDoor
open Go.RowKit Go.Proofs

abbrev Fld := ByteArray × ByteArray
def fldCells (l : List Fld) : List Value := l.flatMap fun x => [.string x.1, .string x.2]
def isX (x : Fld) : Bool := isF x.1.data.toList x.2.data.toList

/-- What Add makes of fields that are there and fields that come: all fields, how many were laid, how it was refused. -/
def addL : List Fld → List Fld → List Fld × Nat × Int
  | cur, [] => (cur, 0, 0)
  | cur, x :: xs => if isX x = false then (cur, 0, 8) else if 24 ≤ cur.length then (cur, 0, 3) else ((addL (cur ++ [x]) xs).1, (addL (cur ++ [x]) xs).2.1 + 1, (addL (cur ++ [x]) xs).2.2)

theorem fldCells_snoc (l : List Fld) (x : Fld) : fldCells (l ++ [x]) = fldCells l ++ [.string x.1, .string x.2] := by simp [fldCells]
theorem fldCells_len (l : List Fld) : (fldCells l).length = l.length * 2 := by
  induction l with
  | nil => rfl
  | cons x l ih => simp only [fldCells, List.flatMap_cons, List.length_append, List.length_cons, List.length_nil] at ih ⊢; omega
theorem fldCells_at (l : List Fld) (k : Nat) (h : k < l.length) : (fldCells l)[k * 2]? = some (.string l[k].1) ∧ (fldCells l)[k * 2 + 1]? = some (.string l[k].2) := by
  induction l generalizing k with
  | nil => exact absurd h (by simp)
  | cons x l ih =>
    cases k with
    | zero => exact ⟨rfl, rfl⟩
    | succ k =>
      have := ih k (by simpa using h)
      have e1 : (k + 1) * 2 = (k * 2) + 2 := by omega
      have e2 : fldCells (x :: l) = [.string x.1, .string x.2] ++ fldCells l := rfl
      rw [e1, e2]
      simpa using this

/-- Block g holds a slice of a block of its own, not before block B, that holds just these fields. -/
def IsFields (w : World) (B g : Nat) (t : TypeId) (v : Value) (l : List Fld) : Prop :=
  Bk w g t #[v] ∧ w.ownsRow B 65 2 v l.length (fldCells l) ∧ v.ownBlock ≠ some g

/-- A slice of fields that can be read. -/
def FRow (w : World) (A : Option Addr) (l : List Fld) : Prop :=
  ∀ k, (h : k < l.length) → ∃ bb off, A = some ⟨bb, off, none⟩ ∧ bb < w.heap.size ∧ w.cell? ⟨bb, off + k * 2, none⟩ = some (.string l[k].1) ∧ w.cell? ⟨bb, off + k * 2 + 1, none⟩ = some (.string l[k].2)

section
variable {S : Nat → Prop} {w w' : World} {B g : Nat} {t : TypeId} {v : Value} {l : List Fld} {A : Option Addr}
theorem IsFields.sm (h : IsFields w B g t v l) (hs : Sm S w w') (hg : ¬ S g) (hv : ∀ b, v.ownBlock = some b → ¬ S b) : IsFields w' B g t v l :=
  ⟨h.1.sm hs hg, own_row_sm h.2.1 hs hv, h.2.2⟩
theorem IsFields.no (h : IsFields w B g t v l) (hs : Sm No w w') : IsFields w' B g t v l := h.sm hs (fun h => h) (fun _ _ h => h)
theorem IsFields.len (h : IsFields w B g t v l) : ∃ A c, v = .slice A l.length c := by
  rcases own_row_form h.2.1 with ⟨rfl, h0, _⟩ | ⟨b, cap, rfl, _⟩
  · exact ⟨none, 0, by rw [h0]⟩
  · exact ⟨_, _, rfl⟩
theorem FRow.sm (h : FRow w A l) (hs : Sm S w w') (hA : ∀ a, A = some a → ¬ S a.block) : FRow w' A l := by
  intro k hk
  obtain ⟨bb, off, hA', hb, h1, h2⟩ := h k hk
  have e := hs.block bb hb (hA _ hA')
  exact ⟨bb, off, hA', Nat.lt_of_lt_of_le hb hs.size, (World.cell?_of_block (w := w) (a := ⟨bb, _, none⟩) e).trans h1, (World.cell?_of_block (w := w) (a := ⟨bb, _, none⟩) e).trans h2⟩
end

/-- All texts of fields are short enough. -/
def Short (l : List Fld) : Prop := ∀ x ∈ l, x.1.size ≤ 1000000 ∧ x.2.size ≤ 1000000

theorem addL_step {cur add : List Fld} {k : Nat} (h : k < add.length) (hx : isX add[k] = true) (hc : ¬ 24 ≤ cur.length) :
    addL cur (add.drop k) = ((addL (cur ++ [add[k]]) (add.drop (k + 1))).1, (addL (cur ++ [add[k]]) (add.drop (k + 1))).2.1 + 1, (addL (cur ++ [add[k]]) (add.drop (k + 1))).2.2) := by
  rw [List.drop_eq_getElem_cons h, addL, if_neg (by simp [hx]), if_neg hc]
theorem addL_not {cur add : List Fld} {k : Nat} (h : k < add.length) (hx : isX add[k] = false) : addL cur (add.drop k) = (cur, 0, 8) := by
  rw [List.drop_eq_getElem_cons h, addL, if_pos hx]
theorem addL_full {cur add : List Fld} {k : Nat} (h : k < add.length) (hx : isX add[k] = true) (hc : 24 ≤ cur.length) : addL cur (add.drop k) = (cur, 0, 3) := by
  rw [List.drop_eq_getElem_cons h, addL, if_neg (by simp [hx]), if_pos hc]
end Go.Proofs.YtiglfbimijnpcaaGreatDoor

namespace Go.Proofs.YtiglfbimijnpcaaGreatDoor
open Go.RowKit Go.Proofs

theorem infoFieldB : (Tryz.prog.info? 65).map (fun i => (i.zero, i.size, i.bytes)) = some (some (.agg #[.string ⟨#[]⟩, .string ⟨#[]⟩]), 2, 32) := by kernel_rfl

def TouchF (g : Nat) (v0 : Value) : Nat → Prop := fun b => b = g ∨ v0.ownBlock = some b
def Follows (w : World) (v0 v : Value) : Prop := v.ownBlock = v0.ownBlock ∨ ∃ b, v.ownBlock = some b ∧ w.heap.size ≤ b

def AddPost (w : World) (B g : Nat) (v0 : Value) (cur add : List Fld) (e : Ending) (w' : World) : Prop :=
  ∃ v, e = .returned (.tuple #[.int .i64 ((addL cur add).2.1 : Int), .int .i64 (addL cur add).2.2]) ∧ IsFields w' B g 137 v (addL cur add).1 ∧ (addL cur add).1.length ≤ 24 ∧ Sm (TouchF g v0) w w' ∧ Follows w v0 v

def AddRel (w : World) (B g : Nat) (v0 : Value) (cur add : List Fld) (i : Value) (wr : World) : Prop :=
  ∃ (k : Nat) (v : Value) (l : List Fld), k ≤ add.length ∧ i = .int .i64 k ∧ addL cur add = ((addL l (add.drop k)).1, (addL l (add.drop k)).2.1 + k, (addL l (add.drop k)).2.2) ∧ l.length ≤ 24 ∧
    IsFields wr B g 137 v l ∧ Sm (TouchF g v0) w wr ∧ Follows w v0 v

set_option maxHeartbeats 4000000 in
theorem add_any (w : World) (B g : Nat) (v0 : Value) (cur add : List Fld) (A : Option Addr) (c : Nat) (h0 : IsFields w B g 137 v0 cur) (hcur : cur.length ≤ 24) (hA : FRow w A add)
    (hdis : 0 < add.length → ∀ a, A = some a → ¬ TouchF g v0 a.block) (hshort : Short add) (hadd : add.length ≤ 1000000) (hB : B ≤ w.heap.size) :
    Calls Tryz.prog 87 #[.pointer (some ⟨g, 0, none⟩), .slice A add.length c] w (AddPost w B g v0 cur add) := by
  have H0 := Lib.hid (And.intro h0 (And.intro hA hdis))
  have HS := Lib.hid hshort
  clear h0 hA hdis hshort
  go_enter Tryz.func87, Tryz.ntmps87
  go_wp2_with fail
  go_loopw [12] (fun i wr => AddRel w B g v0 cur add i wr) (fun i _ => add.length - (intOf i).toNat)
  case atStart => exact ⟨0, v0, cur, Nat.zero_le _, rfl, by simp, hcur, H0.out.1, Sm.refl _ _, Or.inl rfl⟩
  case round =>
    obtain ⟨k, v, l, hk, rfl, hL, hl, hF, hs, hfo⟩ := hrel
    have HL := Lib.hid hL
    have HF := Lib.hid (And.intro hF (And.intro hs hfo))
    clear hL hF hs hfo
    by_cases hlt : k < add.length
    · obtain ⟨bb, off, rfl, hbb, r0, r1⟩ := (H0.out.2.1.sm HF.out.2.1 (H0.out.2.2 (by omega))) k hlt
      obtain ⟨s0, s1⟩ := HS.out _ (List.getElem_mem hlt)
      obtain ⟨nm, hnm⟩ : ∃ x, add[k].1 = x := ⟨_, rfl⟩
      obtain ⟨vl, hvl⟩ : ∃ x, add[k].2 = x := ⟨_, rfl⟩
      rw [hnm] at r0 s0
      rw [hvl] at r1 s1
      obtain ⟨f, hf⟩ : ∃ f, isF nm.data.toList vl.data.toList = f := ⟨_, rfl⟩
      have hx : isX add[k] = f := by unfold isX; rw [hnm, hvl]; exact hf
      have HX := Lib.hid (And.intro hx (And.intro hnm hvl))
      have HFF := Lib.hid hf
      clear hx hnm hvl hf
      go_wp2_with fail
      refine (isOne_say HFF s0 s1 _).mono ?_
      rintro e w1 ⟨rfl, hs1⟩
      have hsm := ((Sm.refl No wr).alloc (.cells #[.string nm, .string vl] 65)).trans hs1 (fun _ _ h => h)
      have hF1 := HF.out.1.no hsm
      have hS1 := HF.out.2.1.trans hsm (fun _ _ h => h.elim)
      have hfo := HF.out.2.2
      have hbx := (Bk.new wr 65 #[.string nm, .string vl]).sm hs1 (fun h => h)
      cases f
      · have hend : addL cur add = (l, k, 8) := by rw [HL.out, addL_not hlt HX.out.1]; simp
        have HE := Lib.hid hend
        clear hend
        go_wp2_with fail
        exact bodyPost_ret (v := .tuple #[.int .i64 k, .int .i64 8]) (by simp [results, Tryz.results87, go_sem]) rfl
          ⟨v, by rw [HE.out], by rw [HE.out]; exact hF1, by rw [HE.out]; exact hl, hS1, hfo⟩
      · obtain ⟨A', c', rfl⟩ := hF1.len
        have cg := hF1.1.at 0 (v := .slice A' l.length c') rfl
        have zg := hF1.1.fz 0
        have d0 := hbx.at 0 (v := .string nm) rfl
        have d1 := hbx.at 1 (v := .string vl) rfl
        by_cases hfull : 24 ≤ l.length
        · have hend : addL cur add = (l, k, 3) := by rw [HL.out, addL_full hlt HX.out.1 hfull]; simp
          have HE := Lib.hid hend
          clear hend
          go_wp2_with fail
          exact bodyPost_ret (v := .tuple #[.int .i64 k, .int .i64 3]) (by simp [results, Tryz.results87, go_sem]) rfl
            ⟨_, by rw [HE.out], by rw [HE.out]; exact hF1, by rw [HE.out]; exact hl, hS1, hfo⟩
        · have hstep := addL_step hlt HX.out.1 hfull
          have HST := Lib.hid hstep
          have hfull2 : l.length < 24 := by omega
          clear hstep hfull
          have HR := Lib.hid (And.intro hF1 (And.intro hS1 hfo))
          have HOwn := Lib.hid ((hF1.2.1.alloc (.cells #[.string nm, .string vl] 65)).drew)
          have HBlk := Lib.hid (Bk.new w1 65 #[.string nm, .string vl]).drew
          have HKb := Lib.hid ((hF1.1.alloc (.cells #[.string nm, .string vl] 65)).drew)
          have HNe := Lib.hid (show ¬ (Value.slice A' l.length c').ownBlock = some g from hF1.2.2)
          have HBx := Lib.hid ((hbx.alloc (.cells #[.string nm, .string vl] 65)).drew)
          have HNb := Lib.hid (show ¬ (Value.slice A' l.length c').ownBlock = some wr.heap.size from fun e => by
            have := (HF.out.1.2.1.lt _ e).2
            omega)
          have HBB := Lib.hid (show B ≤ ((w1.alloc (.cells #[.string nm, .string vl] 65)).drew).heap.size by
            have := hS1.size
            simp; omega)
          have hgl := hF1.1.lt
          have hbl := hbx.lt
          clear hF1 hS1 hfo hsm
          go_wp2_with fail
          go_region_law
            ((refine step_push (by rfl) _ _ 27 65 (by rfl) Tryz.underlying27 _ 2 32 infoFieldB rfl (by decide) (by decide) B l.length _ (fldCells l) (by rfl) HOwn.out w1.heap.size #[.string nm, .string vl] (by rfl) HBlk.out rfl (by simp [Value.oneCell']) (by omega) HBB.out ?_; intro r cap w2 hown2 hs2 hr2; have hb2 := HKb.out.sm hs2 HNe.out; have cg2 := hb2.at 0 (v := .slice A' l.length c') rfl; have zg2 := hb2.fz 0; have hbx2 := HBx.out.sm hs2 HNb.out; have d2 := hbx2.at 0 (v := .string nm) rfl; have d3 := hbx2.at 1 (v := .string vl) rfl))
          all_goals
            have hne : r ≠ g := by
              rcases hr2 with e | e
              · rintro rfl; exact HNe.out e
              · simp at e; omega
            have hs3 := (Sm.refl (fun x => x = g) w2).set1 0 (.slice (some ⟨r, 0, none⟩) (l.length + 1) cap)
            have hb3 : Bk (w2.setCell ⟨g, 0, none⟩ (.slice (some ⟨r, 0, none⟩) (l.length + 1) cap)) g 137 #[.slice (some ⟨r, 0, none⟩) (l.length + 1) cap] := (hb2.set 0 _).eq (by rfl)
            have ho3 := own_row_sm hown2 hs3 (fun b hb => by injection hb with hb; subst hb; exact hne)
            have hF3 : IsFields (w2.setCell ⟨g, 0, none⟩ (.slice (some ⟨r, 0, none⟩) (l.length + 1) cap)) B g 137 (.slice (some ⟨r, 0, none⟩) (l.length + 1) cap) (l ++ [add[k]]) :=
              ⟨hb3, by rw [fldCells_snoc, HX.out.2.1, HX.out.2.2, List.length_append]; exact ho3, by simp [Value.ownBlock]; exact hne⟩
            have hS2 := ((HR.out.2.1.alloc (.cells #[.string nm, .string vl] 65)).drew).trans hs2 (fun b hb e => by
              rcases HR.out.2.2 with f | ⟨q, f, hq⟩
              · exact Or.inr (f ▸ e)
              · rw [f] at e; injection e with e; omega)
            have hS3 := hS2.trans hs3 (fun b _ e => Or.inl e)
            have hf3 : Follows w v0 (.slice (some ⟨r, 0, none⟩) (l.length + 1) cap) := by
              rcases hr2 with e | e
              · rcases HR.out.2.2 with f | ⟨q, f, hq⟩
                · exact Or.inl (by rw [← f, e]; rfl)
                · rw [e] at f; injection f with f; exact Or.inr ⟨r, rfl, by omega⟩
              · have := HR.out.2.1.size
                simp at e
                exact Or.inr ⟨r, rfl, by omega⟩
            go_wp2_with fail
            exact ⟨⟨k + 1, _, l ++ [add[k]], by omega, by go_num, by rw [HL.out, HST.out]; simp; omega, by simp; omega, hF3, hS3, hf3⟩, by simp [intOf]; omega⟩
    · have hend : addL cur add = (l, add.length, 0) := by
        have e : k = add.length := by omega
        rw [HL.out, e, List.drop_length]; simp [addL]
      have HE := Lib.hid hend
      clear hend
      go_wp2_with fail
      exact bodyPost_ret (v := .tuple #[.int .i64 add.length, .int .i64 0]) (by simp [results, Tryz.results87, go_sem]) rfl
        ⟨v, by rw [HE.out], by rw [HE.out]; exact HF.out.1, by rw [HE.out]; exact hl, HF.out.2.1, HF.out.2.2⟩

def OfPost (w : World) (add : List Fld) (e : Ending) (w' : World) : Prop :=
  ∃ g v, e = .returned (.pointer (some ⟨g, 0, none⟩)) ∧ w.heap.size ≤ g ∧ IsFields w' w.heap.size g 137 v (addL [] add).1 ∧ (addL [] add).1.length ≤ 24 ∧ Sm No w w'

set_option maxHeartbeats 1000000 in
theorem of_any (w : World) (add : List Fld) (A : Option Addr) (c : Nat) (hA : FRow w A add) (hshort : Short add) (hadd : add.length ≤ 1000000) :
    Calls Tryz.prog 43 #[.slice A add.length c] w (OfPost w add) := by
  have hs0 := (Sm.refl No w).alloc (.cells #[.slice none 0 0] 137)
  have HA := Lib.hid hA
  have h0 : IsFields (w.alloc (.cells #[.slice none 0 0] 137)) w.heap.size w.heap.size 137 (.slice none 0 0) [] :=
    ⟨Bk.new w _ _, World.ownsRow_nil _ _ _ 2, by simp [Value.ownBlock]⟩
  have hcon := add_any (w.alloc (.cells #[.slice none 0 0] 137)) w.heap.size w.heap.size (.slice none 0 0) [] add A c h0 (by simp) (hA.sm hs0 (fun _ _ h => h)) (fun hl a ha => by
    obtain ⟨bb, off, e, hb, _⟩ := HA.out 0 hl
    rw [e] at ha; injection ha with ha; subst ha
    rintro (e | e)
    · dsimp only at e; omega
    · simp [Value.ownBlock] at e) hshort hadd (by simp)
  have HC := Lib.hid hcon
  have HS := Lib.hid hs0
  clear hA h0 hcon hs0
  go_enter Tryz.func43, Tryz.ntmps43
  go_wp2_with fail
  refine HC.out.mono ?_
  rintro e w2 ⟨v, rfl, hF, hl, hs, hf⟩
  have HF := Lib.hid (And.intro hF (And.intro hl hs))
  clear hF hl hs hf
  go_wp2_with fail
  go_ret
  exact ⟨w.heap.size, v, rfl, Nat.le_refl _, HF.out.1, HF.out.2.1, HS.out.trans HF.out.2.2 (fun b hb e => by
    rcases e with e | e
    · omega
    · simp [Value.ownBlock] at e)⟩
end Go.Proofs.YtiglfbimijnpcaaGreatDoor

namespace Go.Proofs.YtiglfbimijnpcaaGreatDoor
open Go.RowKit Go.Proofs

def valuesL (l : List Fld) (name : ByteArray) : List ByteArray := (l.filter fun x => sameL x.1.data.toList name.data.toList).map (·.2)

/-- v is a slice of a block of its own, not before block B, that holds just these texts. -/
def OwnS (w : World) (B : Nat) (v : Value) (l : List ByteArray) : Prop := w.ownsRow B 9 1 v l.length (l.map Value.string)

def ValuesPost (w : World) (l : List Fld) (name : ByteArray) (e : Ending) (w' : World) : Prop := ∃ v, e = .returned v ∧ OwnS w' w.heap.size v (valuesL l name) ∧ Sm No w w'

def ValRel (w : World) (l : List Fld) (name : ByteArray) (acc i : Value) (wr : World) : Prop :=
  ∃ (k : Nat), k ≤ l.length ∧ i = .int .i64 k ∧ OwnS wr w.heap.size acc (valuesL (l.take k) name) ∧ Sm No w wr

theorem valuesL_snoc (l : List Fld) (name : ByteArray) (k : Nat) (h : k < l.length) : valuesL (l.take (k + 1)) name = if sameL l[k].1.data.toList name.data.toList = true then valuesL (l.take k) name ++ [l[k].2] else valuesL (l.take k) name := by
  unfold valuesL
  rw [List.take_succ_eq_append_getElem h, List.filter_append]
  cases hq : sameL l[k].1.data.toList name.data.toList <;> simp [hq]

theorem IsFields.row {w : World} {B g : Nat} {t : TypeId} {v : Value} {l : List Fld} (h : IsFields w B g t v l) : ∃ A c, v = .slice A l.length c ∧ FRow w A l := by
  rcases own_row_form h.2.1 with ⟨rfl, h0, _⟩ | ⟨b, cap, rfl, _, _, hb, _, hc, _⟩
  · exact ⟨none, 0, by rw [h0], fun k hk => absurd hk (by omega)⟩
  · refine ⟨_, _, rfl, fun k hk => ?_⟩
    obtain ⟨h1, h2⟩ := fldCells_at l k hk
    exact ⟨b, 0, rfl, hb, by simpa using hc _ _ h1, by simpa using hc _ _ h2⟩

theorem same_say {s t : ByteArray} {r : Bool} (h : Hid (sameL s.data.toList t.data.toList = r)) (hs : s.size ≤ 1000000) (ht : t.size ≤ 1000000) (w : World) :
    Calls Tryz.prog 121 #[.string s, .string t] w fun e w' => e = .returned (.bool r) ∧ Sm No w w' := by
  rw [← h.out]; exact same_any s t hs ht w

set_option maxHeartbeats 4000000 in
theorem values_any (w : World) (B g : Nat) (v : Value) (l : List Fld) (name : ByteArray) (hF : IsFields w B g 137 v l) (hl : l.length ≤ 24) (hshort : Short l) (hn : name.size ≤ 1000000) :
    Calls Tryz.prog 88 #[.pointer (some ⟨g, 0, none⟩), .string name] w (ValuesPost w l name) := by
  obtain ⟨A, c, rfl, hR⟩ := hF.row
  have cg := hF.1.at 0 (v := .slice A l.length c) rfl
  have HR := Lib.hid hR
  have HS := Lib.hid hshort
  clear hR hshort hF
  go_enter Tryz.func88, Tryz.ntmps88
  go_wp2_with fail
  go_loopw [5, 15] (fun acc i wr => ValRel w l name acc i wr) (fun _ i _ => l.length - (intOf i).toNat)
  case atStart => exact ⟨0, Nat.zero_le _, rfl, World.ownsRow_nil _ _ _ 1, Sm.refl _ _⟩
  case round =>
    obtain ⟨k, hk, rfl, hO, hs⟩ := hrel
    have HO := Lib.hid (And.intro hO hs)
    clear hO hs
    by_cases hlt : k < l.length
    · obtain ⟨bb, off, hA, hbb, r0, r1⟩ := (HR.out.sm HO.out.2 (fun _ _ h => h)) k hlt
      subst hA
      obtain ⟨s0, s1⟩ := HS.out _ (List.getElem_mem hlt)
      have hsn := valuesL_snoc l name k hlt
      obtain ⟨nm, hnm⟩ : ∃ x, l[k].1 = x := ⟨_, rfl⟩
      obtain ⟨vl, hvl⟩ : ∃ x, l[k].2 = x := ⟨_, rfl⟩
      rw [hnm] at r0 s0 hsn
      rw [hvl] at r1 hsn
      obtain ⟨f, hf⟩ : ∃ f, sameL nm.data.toList name.data.toList = f := ⟨_, rfl⟩
      rw [hf] at hsn
      have HF := Lib.hid hf
      have HN := Lib.hid hsn
      clear hnm hvl hf hsn
      go_wp2_with fail
      refine (same_say HF s0 hn _).mono ?_
      rintro e w1 ⟨rfl, hs1⟩
      have hsm := ((Sm.refl No wr).alloc (.cells #[.string nm, .string vl] 65)).trans hs1 (fun _ _ h => h)
      have hS1 := HO.out.2.trans hsm (fun _ _ h => h)
      have hO1 : OwnS w1 w.heap.size u5 (valuesL (l.take k) name) := own_row_sm HO.out.1 hsm (fun _ _ h => h)
      have hbx := (Bk.new wr 65 #[.string nm, .string vl]).sm hs1 (fun h => h)
      cases f
      · have HX := Lib.hid (And.intro hS1 hO1)
        clear hsm hS1 hO1 hs1
        go_wp2_with fail
        exact ⟨⟨k + 1, by omega, by go_num, by rw [HN.out]; exact HX.out.2, HX.out.1⟩, by simp [intOf]; omega⟩
      · have d1 := hbx.at 1 (v := .string vl) rfl
        have hkl : (valuesL (l.take k) name).length ≤ 1000000 := by
          have h1 := List.length_filter_le (fun x : Fld => sameL x.1.data.toList name.data.toList) (l.take k)
          have h2 := List.length_take_le k l
          unfold valuesL
          rw [List.length_map]
          omega
        have hbb1 : w.heap.size ≤ w1.heap.size := hS1.size
        have HX := Lib.hid (And.intro hS1 hO1)
        clear hsm hS1 hO1 hs1
        go_wp2_with (refine wpList_push rfl _ _ 82 9 rfl Tryz.underlying82 _ 1 16 infoStr rfl (by decide) (by decide) w.heap.size _ u5 _ rfl (World.ownsRow.alloc HX.out.2 _) w1.heap.size #[.string vl] rfl (Bk.new w1 _ _) rfl (by simp [Value.oneCell']) hkl (by simp; omega) ?_; intro v' w2 hown2 hs2 hv2)
        have hO3 : OwnS w2 w.heap.size v' (valuesL (l.take (k + 1)) name) := by
          rw [HN.out]
          unfold OwnS
          simpa using hown2
        have hS3 : Sm No w w2 := (HX.out.1.alloc (.cells #[.string vl] 9)).trans hs2 (fun b hb e => by
          have := (World.ownsRow.lt HX.out.2 b e).1
          omega)
        exact ⟨⟨k + 1, by omega, by go_num, hO3, hS3⟩, by simp [intOf]; omega⟩
    · have ha : l.take k = l := List.take_of_length_le (by omega)
      have HA := Lib.hid ha
      clear ha
      go_wp2_with fail
      go_ret
      exact ⟨_, rfl, by have := HO.out.1; rw [HA.out] at this; exact this, HO.out.2⟩
end Go.Proofs.YtiglfbimijnpcaaGreatDoor

namespace Go.Proofs.YtiglfbimijnpcaaGreatDoor
open Go.RowKit Go.Proofs

def sep : List UInt8 := [44, 32]
def getL (l : List Fld) (name : ByteArray) : List UInt8 := Lib.join ((valuesL l name).map (·.data.toList)) sep

theorem lens_le (xs : List ByteArray) (h : ∀ x ∈ xs, x.size ≤ 1000000) : Lib.lens (xs.map (·.data.toList)) ≤ 1000000 * xs.length := by
  induction xs with
  | nil => simp [Lib.lens]
  | cons x xs ih =>
    have h1 := ih (fun y hy => h y (List.mem_cons_of_mem _ hy))
    have h2 := h x (List.mem_cons_self ..)
    have h3 : x.data.toList.length = x.size := by simp
    simp only [Lib.lens, List.map_cons, List.sum_cons, List.length_cons] at h1 ⊢
    omega
theorem join_le (xs : List ByteArray) (h : ∀ x ∈ xs, x.size ≤ 1000000) (hl : xs.length ≤ 1000) : (Lib.join (xs.map (·.data.toList)) sep).length ≤ 140737488355328 := by
  cases xs with
  | nil => simp [Lib.join_nil]
  | cons x xs =>
    rw [List.map_cons, Lib.join_length]
    have := lens_le (x :: xs) h
    simp only [List.map_cons, List.length_cons, List.length_map] at this hl ⊢
    have h2 : sep.length = 2 := rfl
    rw [h2]
    omega
theorem valuesL_short {l : List Fld} {name : ByteArray} (h : Short l) : ∀ x ∈ valuesL l name, x.size ≤ 1000000 := by
  intro x hx
  unfold valuesL at hx
  obtain ⟨y, hy, rfl⟩ := List.mem_map.mp hx
  exact (h y (List.mem_filter.mp hy).1).2
theorem valuesL_len (l : List Fld) (name : ByteArray) : (valuesL l name).length ≤ l.length := by
  unfold valuesL
  rw [List.length_map]
  exact List.length_filter_le _ _

/-- strings.Join at a slice of texts of the call's own. -/
theorem join_own (w : World) (B : Nat) (v : Value) (xs : List ByteArray) (hO : OwnS w B v xs) (h : ∀ x ∈ xs, x.size ≤ 1000000) (hl : xs.length ≤ 1000) :
    Calls Tryz.prog 80 #[v, .string ⟨#[44, 32]⟩] w fun e w' => e = .returned (.string ⟨(Lib.join (xs.map (·.data.toList)) sep).toArray⟩) ∧ Sm No w w' := by
  rcases own_row_form hO with ⟨rfl, h0, _⟩ | ⟨b, cap, rfl, _, _, hb, hcap, hc, _⟩
  · have : xs = [] := List.eq_nil_of_length_eq_zero h0
    subst this
    exact (Tryz.strings_Join_none none 0 _ w).mono fun e w' ⟨he, hw⟩ => ⟨he, hw ▸ Sm.refl _ _⟩
  · exact (Tryz.strings_Join b 0 cap xs ⟨#[44, 32]⟩ w (fun j x hj => by
      rw [Nat.zero_add]; exact hc j _ (by simp [hj])) hb (by omega) hcap (join_le xs h hl)).mono fun e w' ⟨he, hB⟩ => ⟨he, Sm.of_below hB No⟩

set_option maxHeartbeats 1000000 in
theorem get_any (w : World) (B g : Nat) (v : Value) (l : List Fld) (name : ByteArray) (hF : IsFields w B g 137 v l) (hl : l.length ≤ 24) (hshort : Short l) (hn : name.size ≤ 1000000) :
    Calls Tryz.prog 44 #[.pointer (some ⟨g, 0, none⟩), .string name] w fun e w' => e = .returned (.string ⟨(getL l name).toArray⟩) ∧ Sm No w w' := by
  have HV := Lib.hid (values_any w B g v l name hF hl hshort hn)
  have HX := Lib.hid (And.intro (valuesL_short (name := name) hshort) (valuesL_len l name))
  clear hF hshort
  obtain ⟨r, hr⟩ : ∃ r, (⟨(getL l name).toArray⟩ : ByteArray) = r := ⟨_, rfl⟩
  have HJ := Lib.hid (fun (w : World) (B : Nat) (v : Value) (hO : OwnS w B v (valuesL l name)) => hr ▸ join_own w B v _ hO HX.out.1 (by have := HX.out.2; omega))
  rw [hr]
  clear hr
  go_enter Tryz.func44, Tryz.ntmps44
  go_wp2_with fail
  refine HV.out.mono ?_
  rintro e w1 ⟨vs, rfl, hO, hs⟩
  have HO := Lib.hid (And.intro hO hs)
  clear hO hs
  go_wp2_with fail
  refine (HJ.out _ _ _ HO.out.1).mono ?_
  rintro e w2 ⟨rfl, hs2⟩
  go_wp2_with fail
  go_ret
  exact ⟨rfl, HO.out.2.trans hs2 (fun _ _ h => h)⟩
end Go.Proofs.YtiglfbimijnpcaaGreatDoor

namespace Go.Proofs.YtiglfbimijnpcaaGreatDoor
open Go.RowKit Go.Proofs

def kA : ByteArray := ⟨#[97]⟩
def kB : ByteArray := ⟨#[98]⟩
end Go.Proofs.YtiglfbimijnpcaaGreatDoor

namespace Go.Proofs.YtiglfbimijnpcaaGreatDoor
open Go.RowKit Go.Proofs

end Go.Proofs.YtiglfbimijnpcaaGreatDoor

