/- Arguments opened: rows of fields. -/
import Derived.Test.YtiglfbimijnpcaaGreatDoorQB
import Derived.Test.YtiglfbimijnpcaaGreatDoorQO
namespace Go.Proofs.YtiglfbimijnpcaaGreatDoor
open Go.RowKit Go.WideShapes Go.ChangeShapes Go.Proofs Go.Deep

/-- What is known of a slice of fields that came in. -/
def ArgF (w : World) (A : Option Addr) (l : List Fld) (c : Nat) : Prop :=
  FRow w A l ∧ l.length ≤ c ∧ c ≤ 4398046511104 ∧ (∀ x ∈ l, x.1.size ≤ 140737488351232 ∧ x.2.size ≤ 140737488351232) ∧ (A = none → c = 0)
theorem FRow.no {w w' : World} {A : Option Addr} {l : List Fld} (h : FRow w A l) (hs : Sm No w w') : FRow w' A l := h.sm hs (fun _ _ h => h)
theorem ArgF.no {w w' : World} {A : Option Addr} {l : List Fld} {c : Nat} (h : ArgF w A l c) (hs : Sm No w w') : ArgF w' A l c := ⟨h.1.no hs, h.2⟩

section
variable {H : Type} {enc : TypeId × Value → H} {w : World}

theorem open_field {fuel : Nat} {cs : List Value} {D : DataW H} {Pl : List MemPlace} (hlen : cs.length = 2) (h : DataW.trod enc Tryz.prog w 0 (fun _ => true) true fuel 65 cs = some (D, Pl)) :
    ∃ x : Fld, cs = [.string x.1, .string x.2] ∧ x.1.data.toList.length ∈ D.weights Tryz.prog 65 ∧ x.2.data.toList.length ∈ D.weights Tryz.prog 65 := by
  match cs, hlen with
  | [c0, c1], _ =>
    obtain ⟨k0, d0, p0, h0, w0⟩ := open_part Tryz.underlying65 h 0 rfl (n := 1) (by kernel_rfl)
    obtain ⟨k1, d1, p1, h1, w1⟩ := open_part Tryz.underlying65 h 1 rfl (n := 1) (by kernel_rfl)
    obtain ⟨s0, e0, x0, _⟩ := DataW.trod_string Tryz.underlying9 h0
    obtain ⟨s1, e1, x1, _⟩ := DataW.trod_string Tryz.underlying9 h1
    have hd0 : d0 = .lit (.string s0.data.toList) := (Prod.ext_iff.1 x0).1
    have hd1 : d1 = .lit (.string s1.data.toList) := (Prod.ext_iff.1 x1).1
    refine ⟨(s0, s1), ?_, w0 _ (by rw [hd0]; simp [DataW.weights]), w1 _ (by rw [hd1]; simp [DataW.weights])⟩
    have e0' : c0 = .string s0 := by simpa using e0
    have e1' : c1 = .string s1 := by simpa using e1
    rw [e0', e1']

theorem open_fields_at {fuel : Nat} {v : Value} {d : DataW H} {ps : List MemPlace} (h : DataW.trod enc Tryz.prog w 0 (fun _ => true) true fuel 27 [v] = some (d, ps)) (hz : ∀ n ∈ d.weights Tryz.prog 27, n ≤ 140737488351232) :
    ∃ A l c, v = .slice A l.length c ∧ ArgF w A l c := by
  rcases open_row Tryz.underlying27 (n := 2) (by kernel_rfl) (by decide) h with rfl | ⟨a, len, cap, rfl, hl, hm, hwt, hall⟩
  · exact ⟨none, [], 0, rfl, fun k hk => absurd hk (by simp), Nat.le_refl _, by omega, by simp, fun _ => rfl⟩
  · have each : ∀ i, i < len → ∃ s : Fld, (s.1.size ≤ 140737488351232 ∧ s.2.size ≤ 140737488351232) ∧ ∃ bb off, a = ⟨bb, off, none⟩ ∧ bb < w.heap.size ∧ w.cell? ⟨bb, off + i * 2, none⟩ = some (.string s.1) ∧ w.cell? ⟨bb, off + i * 2 + 1, none⟩ = some (.string s.2) := fun i hi => by
      obtain ⟨bb, off, cs, D, Pl, k, hA, hb, hlen, hcell, htr, hw⟩ := hall i hi
      obtain ⟨x, rfl, hx1, hx2⟩ := open_field hlen htr
      refine ⟨x, ⟨?_, ?_⟩, bb, off, hA, hb, ?_, ?_⟩
      · simpa using hz _ (hw _ hx1)
      · simpa using hz _ (hw _ hx2)
      · exact hcell 0 (by decide)
      · exact hcell 1 (by decide)
    obtain ⟨f, hf⟩ := choose_lt (α := Fld) each
    have hcap := hz _ hwt
    rw [show Tryz.prog.bytesOf 65 = 32 by kernel_rfl] at hcap
    refine ⟨some a, (List.range len).map f, cap, by simp, fun k hk => ?_, by simpa using hl, by omega, fun x hx => ?_, fun h => by cases h⟩
    · have hk' : k < len := by simpa using hk
      obtain ⟨_, bb, off, hA, hb, h1, h2⟩ := hf k hk'
      exact ⟨bb, off, by rw [hA], hb, by simpa using h1, by simpa using h2⟩
    · obtain ⟨i, hi, rfl⟩ := List.mem_map.1 hx
      exact (hf i (List.mem_range.1 hi)).1

set_option maxRecDepth 100000 in
theorem open_arg_fields {base : Nat} {v : Value} {d : DataW H} {ps : List MemPlace} (hv : Value.okWide Tryz.prog w .any base 27 v) (h : DataW.Trod enc Tryz.prog w 0 (fun _ => true) true 27 v d ps) (hz : ∀ n ∈ d.weights Tryz.prog 27, n ≤ 140737488351232) :
    ∃ A l c, v = .slice A l.length c ∧ ArgF w A l c := by
  obtain ⟨x, len, cap, rfl⟩ := okWide_slice Tryz.underlying27 hv
  obtain ⟨k, hk⟩ := h
  exact open_fields_at hk hz
end

/-- An act of a script. -/
structure Act10 where
  kind : Int
  name : ByteArray
  other : ByteArray
  la : Option Addr
  lc : Nat
  l : List Fld
instance : Inhabited Act10 := ⟨⟨0, ⟨#[]⟩, ⟨#[]⟩, none, 0, []⟩⟩

/-- A slice of acts that can be read. -/
def ARow (w : World) (A : Option Addr) (l : List Act10) : Prop :=
  ∀ k, (h : k < l.length) → (∃ bb off, A = some ⟨bb, off, none⟩ ∧ bb < w.heap.size ∧ w.cell? ⟨bb, off + k * 4, none⟩ = some (.int .i64 l[k].kind) ∧ w.cell? ⟨bb, off + k * 4 + 1, none⟩ = some (.string l[k].name) ∧
    w.cell? ⟨bb, off + k * 4 + 2, none⟩ = some (.string l[k].other) ∧ w.cell? ⟨bb, off + k * 4 + 3, none⟩ = some (.slice l[k].la l[k].l.length l[k].lc)) ∧ FRow w l[k].la l[k].l
def ArgA (w : World) (A : Option Addr) (l : List Act10) (c : Nat) : Prop :=
  ARow w A l ∧ l.length ≤ c ∧ c ≤ 4398046511104 ∧ (∀ x ∈ l, x.name.size ≤ 140737488351232 ∧ x.other.size ≤ 140737488351232 ∧ ArgF w x.la x.l x.lc) ∧ (A = none → c = 0)

theorem ARow.no {w w' : World} {A : Option Addr} {l : List Act10} (h : ARow w A l) (hs : Sm No w w') : ARow w' A l := by
  intro k hk
  obtain ⟨⟨bb, off, hA, hb, h0, h1, h2, h3⟩, hf⟩ := h k hk
  exact ⟨⟨bb, off, hA, Nat.lt_of_lt_of_le hb hs.size, hs.cell hb h0, hs.cell hb h1, hs.cell hb h2, hs.cell hb h3⟩, hf.no hs⟩

section
variable {H : Type} {enc : TypeId × Value → H} {w : World}
end
end Go.Proofs.YtiglfbimijnpcaaGreatDoor

