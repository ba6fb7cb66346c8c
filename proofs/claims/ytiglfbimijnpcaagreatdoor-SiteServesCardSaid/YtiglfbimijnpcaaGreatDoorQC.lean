/- The walk of FieldOne. -/
/- The walk of FieldOfNothing. -/
/- field's Drop: which fields go. -/
/- clear on the end of a slice of the call's own. -/
/- field's Drop. -/
/- The walk of FieldDrops. -/
import Derived.Test.YtiglfbimijnpcaaGreatDoorQFieldK
import Derived.Test.YtiglfbimijnpcaaGreatDoorQO
namespace Go.Proofs.YtiglfbimijnpcaaGreatDoor
open Go.RowKit Go.Proofs

theorem OwnF.row {w : World} {B : Nat} {v : Value} {l : List Fld} (h : OwnF w B v l) : ∃ A c, v = .slice A l.length c ∧ FRow w A l := by
  obtain ⟨A, c, hv, hR, _, _⟩ := own_rowC h
  exact ⟨A, c, hv, hR.frow⟩
theorem OwnF.no {w w' : World} {B : Nat} {v : Value} {l : List Fld} (h : OwnF w B v l) (hs : Sm No w w') : OwnF w' B v l := own_row_sm h hs (fun _ _ h => h)
theorem IsFields.lt {w : World} {B g : Nat} {t : TypeId} {v : Value} {l : List Fld} (h : IsFields w B g t v l) : g < w.heap.size ∧ ∀ b, v.ownBlock = some b → B ≤ b ∧ b < w.heap.size :=
  ⟨h.1.lt, fun b hb => World.ownsRow.lt h.2.1 b hb⟩

/-- What comes of adding the fields of a list from the k-th on, where the first k were laid. -/
def Sofar (l : List Fld) (k : Nat) : Prop := addL [] l = ((addL (l.take k) (l.drop k)).1, (addL (l.take k) (l.drop k)).2.1 + k, (addL (l.take k) (l.drop k)).2.2)
theorem sofar_zero (l : List Fld) : Sofar l 0 := by simp [Sofar]
theorem sofar_step {l : List Fld} {k : Nat} (h : Sofar l k) (hk : k < l.length) (hx : isX l[k] = true) (hc : ¬ 24 ≤ k) : Sofar l (k + 1) := by
  unfold Sofar at h ⊢
  rw [h, addL_step hk hx (by simp; omega), List.take_succ_eq_append_getElem hk]
  simp; omega
theorem sofar_not {l : List Fld} {k : Nat} (h : Sofar l k) (hk : k < l.length) (hx : isX l[k] = false) : (addL [] l).1 = l.take k := by
  rw [show addL [] l = _ from h, addL_not hk hx]
theorem sofar_full {l : List Fld} {k : Nat} (h : Sofar l k) (hk : k < l.length) (hx : isX l[k] = true) (hc : 24 ≤ k) : (addL [] l).1 = l.take k := by
  rw [show addL [] l = _ from h, addL_full hk hx (by simp; omega)]
theorem sofar_end {l : List Fld} {k : Nat} (h : Sofar l k) (hk : ¬ k < l.length) : (addL [] l).1 = l.take k := by
  rw [show addL [] l = _ from h, List.drop_eq_nil_of_le (by omega)]
  rfl

theorem addL_one (cur : List Fld) (x : Fld) : (isX x = false ∧ addL cur [x] = (cur, 0, 8)) ∨ (isX x = true ∧ 24 ≤ cur.length ∧ addL cur [x] = (cur, 0, 3)) ∨ (isX x = true ∧ cur.length < 24 ∧ addL cur [x] = (cur ++ [x], 1, 0)) := by
  cases hx : isX x
  · exact Or.inl ⟨rfl, by rw [addL, if_pos hx]⟩
  · by_cases hc : 24 ≤ cur.length
    · exact Or.inr (Or.inl ⟨rfl, hc, by rw [addL, if_neg (by simp [hx]), if_pos hc]⟩)
    · exact Or.inr (Or.inr ⟨rfl, by omega, by rw [addL, if_neg (by simp [hx]), if_neg hc]; rfl⟩)

def OneRel (w : World) (B ga : Nat) (va : Value) (gb : Nat) (l : List Fld) (n : Value) (wr : World) : Prop :=
  ∃ (k : Nat) (vb : Value), k ≤ l.length ∧ k ≤ 24 ∧ n = .int .i64 k ∧ Sofar l k ∧ IsFields wr B gb 137 vb (l.take k) ∧ IsFields wr w.heap.size ga 137 va (addL [] l).1 ∧ Sm No w wr ∧ B ≤ wr.heap.size

end Go.Proofs.YtiglfbimijnpcaaGreatDoor

namespace Go.Proofs.YtiglfbimijnpcaaGreatDoor
open Go.RowKit Go.Proofs

theorem add_nil (v : Value) (w : World) : Calls Tryz.prog 87 #[.pointer none, v] w fun e w' => e = .returned (.tuple #[.int .i64 0, .int .i64 1]) ∧ w = w' := by
  go_enter Tryz.func87, Tryz.ntmps87
  go_wp2_with fail
  exact bodyPost_ret (v := .tuple #[.int .i64 0, .int .i64 1]) (by simp [results, Tryz.results87, go_sem]) rfl ⟨rfl, rfl⟩
theorem get_nil (name : ByteArray) (w : World) : Calls Tryz.prog 44 #[.pointer none, .string name] w fun e w' => e = .returned (.string ⟨#[]⟩) ∧ Sm No w w' := by
  have HJ := Lib.hid (fun w => join_own w 0 (.slice none 0 0) [] (World.ownsRow_nil _ _ _ 1) (by intro x hx; cases hx) (by simp))
  go_enter Tryz.func44, Tryz.ntmps44
  go_wp2_with fail
  refine (values_nil _ _).mono ?_
  rintro e w1 ⟨rfl, rfl⟩
  go_wp2_with fail
  refine (HJ.out _).mono ?_
  rintro e w2 ⟨rfl, hs2⟩
  go_wp2_with fail
  go_ret
  exact ⟨rfl, hs2⟩
end Go.Proofs.YtiglfbimijnpcaaGreatDoor

namespace Go.Proofs.YtiglfbimijnpcaaGreatDoor
open Go.RowKit Go.Proofs

/-- Is a name among some, in whatever size? -/
def amongL (names : List ByteArray) (x : Fld) : Bool := names.any fun s => sameL s.data.toList x.1.data.toList

/-- The first name of a list that is the field's; how many there are, if none is. -/
def firstL (names : List ByteArray) (x : Fld) : Nat := names.findIdx fun s => sameL s.data.toList x.1.data.toList
def IdxRel (w : World) (names : List ByteArray) (x : Fld) (i : Value) (wr : World) : Prop :=
  ∃ k : Nat, k ≤ names.length ∧ i = .int .i64 k ∧ Sm No w wr ∧ ∀ j, (h : j < names.length) → j < k → sameL names[j].data.toList x.1.data.toList = false

/-- What the closure of Drop leans on. -/
def Names (w : World) (gn : Nat) (names : List ByteArray) : Prop := ∃ A c, Bk w gn 82 #[.slice A names.length c] ∧ SRow w A names ∧ (∀ a, A = some a → a.block < w.heap.size ∧ a.block ≠ gn) ∧ names.length ≤ 1000000 ∧ ∀ s ∈ names, s.size ≤ 1000000
def IdxRel2 (w : World) (names : List ByteArray) (l : List Fld) (i : Value) (wr : World) : Prop :=
  ∃ k : Nat, k ≤ l.length ∧ i = .int .i64 k ∧ Sm No w wr ∧ ∀ x ∈ l.take k, amongL names x = false
/-- Where the first field that goes stands. -/
def FirstAt (names : List ByteArray) (l : List Fld) (r : Int) : Prop := (r = -1 ∧ ∀ x ∈ l, amongL names x = false) ∨ ∃ k : Nat, r = k ∧ ∃ h : k < l.length, amongL names l[k] = true ∧ ∀ x ∈ l.take k, amongL names x = false
def IndexPost (w : World) (names : List ByteArray) (l : List Fld) (e : Ending) (w' : World) : Prop := ∃ r : Int, e = .returned (.int .i64 r) ∧ FirstAt names l r ∧ Sm No w w'

theorem Names.no {w w' : World} {gn : Nat} {names : List ByteArray} (h : Names w gn names) (hs : Sm No w w') : Names w' gn names := by
  obtain ⟨A, c, hb, hA, hl⟩ := h
  exact ⟨A, c, hb.sm hs (fun h => h), hA.no hs, fun a ha => ⟨Nat.lt_of_lt_of_le (hl.1 a ha).1 hs.size, (hl.1 a ha).2⟩, hl.2⟩

end Go.Proofs.YtiglfbimijnpcaaGreatDoor

namespace Go.Proofs.YtiglfbimijnpcaaGreatDoor
open Go.RowKit Go.Proofs

theorem Sm.setRow {S : Nat → Prop} {w w1 : World} (h : Sm S w w1) {g : Nat} (hg : S g ∨ w.heap.size ≤ g) (cs : Array Value) : Sm S w (w1.setRow g cs) :=
  ⟨h.os, h.tape, h.output, by have := h.size; simp [World.setRow]; omega, fun b hb hS => (setRow_other w1 g b cs (by
    rintro rfl
    rcases hg with hg | hg
    · exact hS hg
    · omega)).trans (h.block b hb hS)⟩

section
variable {P : Program} {ops : Array Oper} {rest : List Oper} {o : Oper} {a : Act} {w : World} {Q : Exit → Act → World → Prop}

theorem wpList_clear_own (hgd : o.guard = none) (x : Operand) (st t : TypeId) (ho : o.op = .call { callee := .builtin .clear, args := #[x], argTypes := #[st] }) (ht : P.underlying st = some (.slice t))
    (z : Value) (size : Nat) (hz : ∀ w, (zeroValue t).run P w = .ok z w) (hzs : z.cells.size = size) (hsz : 0 < size) (h1 : ∀ u ∈ z.cells.toList, u.oneCell' = true)
    (B n cap g : Nat) (xs : List Value) (hown : w.ownsRow B t size (.slice (some ⟨g, 0, none⟩) n cap) n xs) (i : Nat) (hi : i < n) (c : Nat) (hx : a.eval x = .slice (some ⟨g, i * size, none⟩) (n - i) c)
    (h : ∀ w', w'.ownsRow B t size (.slice (some ⟨g, 0, none⟩) i cap) i (xs.take (i * size)) → Sm (fun b => b = g) w w' → wpList P ops Q rest (a.put o.dst (.tuple #[])) w') : wpList P ops Q (o :: rest) a w := by
  have hxs := hown.1
  rcases hown.2 with ⟨h', _⟩ | ⟨g', cap', cur, h', hb, hg, hnc, hcm, hcs, htake⟩
  · simp at h'
  simp only [Value.slice.injEq, Option.some.injEq, Addr.mk.injEq, and_true, true_and] at h'
  obtain ⟨rfl, rfl⟩ := h'
  obtain ⟨d, hd⟩ : ∃ d, n = i + (d + 1) := ⟨n - i - 1, by omega⟩
  have e1 : n - i = d + 1 := by omega
  have hzl : (Builtin.zeroCells z.cells (d + 1)).toList.length = (d + 1) * size := by rw [Array.length_toList, size_zeroCells, hzs]
  have hmul : n * size = i * size + (d + 1) * size := by rw [hd, Nat.add_mul]
  have hcap : n * size ≤ cap * size := Nat.mul_le_mul_right _ hnc
  have hr := run_storeCells_at (P := P) g (i * size) t (Builtin.zeroCells z.cells (d + 1)).toList 0 cur w hg (by rw [hzl]; omega) (fun v hv => by
    simp only [Builtin.zeroCells, Array.toList_map, List.mem_map] at hv
    obtain ⟨k, hk, rfl⟩ := hv
    have hlt : k % z.cells.size < z.cells.size := Nat.mod_lt _ (by omega)
    rw [getElem!_pos z.cells _ hlt]
    exact h1 _ (by simp))
  have hcl : ∀ ty, (Builtin.clear_ #[st] ty #[.slice (some ⟨g, i * size, none⟩) (d + 1) c]).run P w = .ok (.tuple #[]) (w.setRow g (cur.toList.take (i * size + 0) ++ (Builtin.zeroCells z.cells (d + 1)).toList ++ cur.toList.drop (i * size + 0 + (Builtin.zeroCells z.cells (d + 1)).toList.length)).toArray) := fun ty => by
    simp only [Builtin.clear_, List.getElem?_toArray, List.getElem?_cons_zero, Sem.run_bind, run_underlying ht, Result.andThen_ok, hz, hr, Sem.run_pure]
  refine wpList_plain hgd fun K hK => ?_
  unfold Oper.wp execOp
  rw [e1] at hx
  simp only [ho, resolve, invoke, builtin, Sem.run_bind, Sem.run_pure, Result.andThen_ok, List.map_toArray, List.map_cons, List.map_nil, hx, hcl]
  refine hK _ _ (h _ ⟨?_, Or.inr ⟨g, cap, _, rfl, hb, setRow_heap w g cur _ t _ hg, by omega, hcm, ?_, ?_⟩⟩ ((Sm.refl (fun b => b = g) w).setRow (Or.inl rfl) _))
  · rw [List.length_take, hxs]; omega
  · simp only [List.size_toArray, List.length_append, List.length_take, List.length_drop, Array.length_toList, hzl]; omega
  · rw [← htake, List.take_take, List.append_assoc]
    have e2 : i * size + 0 = i * size := rfl
    rw [e2, List.take_append_of_le_length (by rw [List.length_take, Array.length_toList]; omega), List.take_take]
    congr 1
    omega
end
end Go.Proofs.YtiglfbimijnpcaaGreatDoor

namespace Go.Proofs.YtiglfbimijnpcaaGreatDoor
open Go.RowKit Go.Proofs

/-- What Drop leaves. -/
def leftL (names : List ByteArray) (l : List Fld) : List Fld := l.filter fun x => !amongL names x
theorem leftL_len (names : List ByteArray) (l : List Fld) : (leftL names l).length ≤ l.length := List.length_filter_le _ _
theorem leftL_snoc (names : List ByteArray) (l : List Fld) (k : Nat) (h : k < l.length) : leftL names (l.take (k + 1)) = if amongL names l[k] = true then leftL names (l.take k) else leftL names (l.take k) ++ [l[k]] := by
  unfold leftL
  rw [List.take_succ_eq_append_getElem h, List.filter_append]
  cases hq : amongL names l[k] <;> simp [hq]
theorem leftL_all {names : List ByteArray} {l : List Fld} (h : ∀ x ∈ l, amongL names x = false) : leftL names l = l := by
  unfold leftL
  exact List.filter_eq_self.2 fun x hx => by simp [h x hx]

theorem fldCells_set (l : List Fld) (k : Nat) (h : k < l.length) (x : Fld) : ((fldCells l).set (k * 2) (.string x.1)).set (k * 2 + 1) (.string x.2) = fldCells (l.set k x) := by
  induction l generalizing k with
  | nil => exact absurd h (by simp)
  | cons y l ih =>
    cases k with
    | zero => rfl
    | succ k =>
      have e1 : (k + 1) * 2 = k * 2 + 1 + 1 := by omega
      have e2 : fldCells (y :: l) = .string y.1 :: .string y.2 :: fldCells l := rfl
      have e3 : fldCells ((y :: l).set (k + 1) x) = .string y.1 :: .string y.2 :: fldCells (l.set k x) := rfl
      rw [e1, e2, e3, ← ih k (by simpa using h)]
      rfl
theorem fldCells_take (l : List Fld) (k : Nat) : (fldCells l).take (k * 2) = fldCells (l.take k) := by
  induction l generalizing k with
  | nil => simp [fldCells]
  | cons y l ih =>
    cases k with
    | zero => simp [fldCells]
    | succ k =>
      have e1 : (k + 1) * 2 = k * 2 + 1 + 1 := by omega
      have e2 : fldCells (y :: l) = .string y.1 :: .string y.2 :: fldCells l := rfl
      have e3 : fldCells ((y :: l).take (k + 1)) = .string y.1 :: .string y.2 :: fldCells (l.take k) := rfl
      rw [e1, e2, e3, ← ih k]
      rfl

def DelPost (w : World) (B : Nat) (v : Value) (names : List ByteArray) (l : List Fld) (e : Ending) (w' : World) : Prop :=
  ∃ v', e = .returned v' ∧ OwnF w' B v' (leftL names l) ∧ (v'.ownBlock = v.ownBlock) ∧ Sm (fun b => v.ownBlock = some b) w w'

/-- Behind j looks: i of the fields stay. -/
def DelRel (w : World) (B gb cap : Nat) (names : List ByteArray) (l : List Fld) (i j : Value) (wr : World) : Prop :=
  ∃ (k : Nat) (m : List Fld), k ≤ l.length ∧ 0 < k ∧ j = .int .i64 k ∧ i = .int .i64 (leftL names (l.take k)).length ∧ (leftL names (l.take k)).length < k ∧ m.length = l.length ∧ m.take (leftL names (l.take k)).length = leftL names (l.take k) ∧ m.drop k = l.drop k ∧
    wr.ownsRow B 65 2 (.slice (some ⟨gb, 0, none⟩) l.length cap) l.length (fldCells m) ∧ Sm (fun b => b = gb) w wr

theorem zeroField (w : World) : (zeroValue 65).run Tryz.prog w = .ok (.agg #[.string ⟨#[]⟩, .string ⟨#[]⟩]) w := by kernel_rfl

theorem Names.sm {S : Nat → Prop} {w w' : World} {gn : Nat} {names : List ByteArray} (h : Names w gn names) (hs : Sm S w w') (hg : ¬ S gn) (hb : ∀ A c, w.cell? ⟨gn, 0, none⟩ = some (.slice (some A) names.length c) → ¬ S A.block) : Names w' gn names := by
  obtain ⟨A, c, hb0, hA, hl⟩ := h
  refine ⟨A, c, hb0.sm hs hg, hA.sm hs (fun a ha => hb a c ?_), fun a ha => ⟨Nat.lt_of_lt_of_le (hl.1 a ha).1 hs.size, (hl.1 a ha).2⟩, hl.2⟩
  have := hb0.at 0 (v := .slice A names.length c) rfl
  rw [ha] at this
  exact this

/-- The names lie apart from block g. -/
def Apart (w : World) (gn g : Nat) : Prop := gn ≠ g ∧ ∀ A n c, w.cell? ⟨gn, 0, none⟩ = some (.slice (some A) n c) → A.block ≠ g

def DropPost (w : World) (B g : Nat) (v : Value) (names : List ByteArray) (l : List Fld) (e : Ending) (w' : World) : Prop :=
  ∃ v', e = .returned (.int .i64 (l.length - (leftL names l).length : Nat)) ∧ IsFields w' B g 137 v' (leftL names l) ∧ v'.ownBlock = v.ownBlock ∧ Sm (TouchF g v) w w'

end Go.Proofs.YtiglfbimijnpcaaGreatDoor

namespace Go.Proofs.YtiglfbimijnpcaaGreatDoor
open Go.RowKit Go.Proofs

/-! The plain law. -/
theorem sameL_comm (a b : List UInt8) : sameL a b = sameL b a := by unfold sameL; exact Bool.eq_iff_iff.2 ⟨fun h => beq_iff_eq.2 (beq_iff_eq.1 h).symm, fun h => beq_iff_eq.2 (beq_iff_eq.1 h).symm⟩
theorem among_one (name : ByteArray) (x : Fld) : amongL [name] x = sameL x.1.data.toList name.data.toList := by
  unfold amongL; simp [sameL_comm]
theorem values_left (name : ByteArray) (l : List Fld) : (valuesL l name).length = l.length - (leftL [name] l).length := by
  have h : (valuesL l name).length + (leftL [name] l).length = l.length := by
    induction l with
    | nil => rfl
    | cons x l ih =>
      simp only [valuesL, leftL, List.length_map, List.filter_cons, among_one] at ih ⊢
      cases sameL x.1.data.toList name.data.toList <;> simp at ih ⊢ <;> omega
  omega
theorem values_gone (name : ByteArray) (l : List Fld) : valuesL (leftL [name] l) name = [] := by
  unfold valuesL leftL
  rw [List.map_eq_nil_iff, List.filter_eq_nil_iff]
  intro x hx
  have := (List.mem_filter.1 hx).2
  rw [among_one] at this
  simpa using this
theorem get_gone (name : ByteArray) (l : List Fld) : getL (leftL [name] l) name = [] := by unfold getL; rw [values_gone]; rfl
theorem addL_mem : ∀ (l cur : List Fld), ∀ x ∈ (addL cur l).1, x ∈ cur ∨ (x ∈ l ∧ isX x = true)
  | [], cur, x, h => Or.inl (by simpa [addL] using h)
  | y :: l, cur, x, h => by
    rw [addL] at h
    split at h
    · exact Or.inl h
    · rename_i hy
      split at h
      · exact Or.inl h
      · rcases addL_mem l _ x h with g | ⟨g, e⟩
        · rcases List.mem_append.1 g with g | g
          · exact Or.inl g
          · obtain rfl := List.mem_singleton.1 g
            exact Or.inr ⟨by simp, by simpa using hy⟩
        · exact Or.inr ⟨List.mem_cons_of_mem _ g, e⟩
theorem short_addL {l : List Fld} (h : Short l) : Short (addL [] l).1 := fun x hx => by
  rcases addL_mem l [] x hx with g | ⟨g, _⟩
  · cases g
  · exact h x g
theorem short_left {l : List Fld} (names : List ByteArray) (h : Short l) : Short (leftL names l) := fun x hx => h x (List.mem_filter.1 hx).1
theorem add_single {x : Fld} (h : isX x = true) : addL [] [x] = ([x], 1, 0) := by
  rw [addL, if_neg (by simp [h]), if_neg (by simp)]; rfl
theorem values_single (x : Fld) (name : ByteArray) : (valuesL [x] name).length = if amongL [name] x = true then 1 else 0 := by
  unfold valuesL; rw [among_one, List.filter_cons]; split <;> rfl

theorem get_left (w : World) (B g : Nat) (v : Value) (l : List Fld) (name : ByteArray) (hF : IsFields w B g 137 v (leftL [name] l)) (hl : (leftL [name] l).length ≤ 24) (hshort : Short (leftL [name] l)) (hn : name.size ≤ 1000000) :
    Calls Tryz.prog 44 #[.pointer (some ⟨g, 0, none⟩), .string name] w fun e w' => e = .returned (.string ⟨#[]⟩) ∧ Sm No w w' := by
  have h := get_any w B g v _ name hF hl hshort hn
  rw [get_gone] at h
  exact h
theorem OwnF.row2 {w : World} {B : Nat} {v : Value} {l : List Fld} (h : OwnF w B v l) : ∃ A c, v = .slice A l.length c ∧ FRow w A l ∧ (∀ a, A = some a → B ≤ a.block ∧ a.block < w.heap.size) := by
  obtain ⟨A, c, rfl, hR⟩ := h.row
  refine ⟨A, c, rfl, hR, fun a ha => ?_⟩
  subst ha
  exact World.ownsRow.lt h a.block rfl
theorem len_one (x : Fld) (name : ByteArray) {f : Bool} (h : amongL [name] x = f) : (valuesL [x] name).length = if f = true then 1 else 0 := by rw [values_single, h]

def WantRel (w0 : World) (name : ByteArray) (L : List Fld) (want i : Value) (wr : World) : Prop :=
  ∃ k : Nat, k ≤ L.length ∧ i = .int .i64 k ∧ OwnF wr w0.heap.size want (leftL [name] (L.take k)) ∧ Sm No w0 wr

end Go.Proofs.YtiglfbimijnpcaaGreatDoor

