/- Arguments opened: rows of entries, rows of bytes, a request. -/
import Derived.Test.YtiglfbimijnpcaaGreatDoorQG
import Derived.Test.YtiglfbimijnpcaaGreatDoorQN
namespace Go.Proofs.YtiglfbimijnpcaaGreatDoor
open Go.RowKit Go.WideShapes Go.ChangeShapes Go.Proofs Go.Deep

/-- What is known of a slice of entries that came in. -/
def ArgE (w : World) (A : Option Addr) (T : List Ent) (c : Nat) : Prop :=
  RowC w A (entCells T) ∧ T.length ≤ c ∧ c ≤ 4398046511104 ∧ (∀ x ∈ T, x.path.size ≤ 140737488351232 ∧ x.type.size ≤ 140737488351232 ∧ x.data.size ≤ 140737488351232) ∧ (A = none → c = 0)
/-- What is known of a slice of bytes that came in. -/
def ArgB (w : World) (A : Option Addr) (l : List UInt8) (c : Nat) : Prop :=
  RowC w A (byteV l) ∧ l.length ≤ c ∧ c ≤ 140737488351232 ∧ (A = none → c = 0)
theorem ArgE.no {w w' : World} {A : Option Addr} {T : List Ent} {c : Nat} (h : ArgE w A T c) (hs : Sm No w w') : ArgE w' A T c := ⟨h.1.no hs, h.2⟩
theorem ArgB.no {w w' : World} {A : Option Addr} {l : List UInt8} {c : Nat} (h : ArgB w A l c) (hs : Sm No w w') : ArgB w' A l c := ⟨h.1.no hs, h.2⟩
theorem entCells_get {l : List Ent} {j : Nat} {u : Value} (h : (entCells l)[j]? = some u) : ∃ k x, l[k]? = some x ∧ ((j = k * 3 ∧ u = .string x.path) ∨ (j = k * 3 + 1 ∧ u = .string x.type) ∨ (j = k * 3 + 2 ∧ u = .string x.data)) := by
  obtain ⟨hj, _⟩ := List.getElem?_eq_some_iff.1 h
  rw [entCells_len] at hj
  have hk : j / 3 < l.length := by omega
  obtain ⟨h0, h1, h2⟩ := entCells_at (List.getElem?_eq_getElem hk)
  refine ⟨j / 3, l[j / 3], List.getElem?_eq_getElem hk, ?_⟩
  have : j % 3 = 0 ∨ j % 3 = 1 ∨ j % 3 = 2 := by omega
  rcases this with h3 | h3 | h3
  · have e : j = j / 3 * 3 := by omega
    rw [e] at h
    exact Or.inl ⟨e, Option.some.inj (h.symm.trans h0)⟩
  · have e : j = j / 3 * 3 + 1 := by omega
    rw [e] at h
    exact Or.inr (Or.inl ⟨e, Option.some.inj (h.symm.trans h1)⟩)
  · have e : j = j / 3 * 3 + 2 := by omega
    rw [e] at h
    exact Or.inr (Or.inr ⟨e, Option.some.inj (h.symm.trans h2)⟩)
section
variable {H : Type} {enc : TypeId × Value → H} {w : World}
theorem open_entry {fuel : Nat} {cs : List Value} {D : DataW H} {Pl : List MemPlace} (hlen : cs.length = 3) (h : DataW.trod enc Tryz.prog w 0 (fun _ => true) true fuel 56 cs = some (D, Pl)) :
    ∃ x : Ent, cs = [.string x.path, .string x.type, .string x.data] ∧ x.path.data.toList.length ∈ D.weights Tryz.prog 56 ∧ x.type.data.toList.length ∈ D.weights Tryz.prog 56 ∧ x.data.data.toList.length ∈ D.weights Tryz.prog 56 := by
  match cs, hlen with
  | [c0, c1, c2], _ =>
    obtain ⟨k0, d0, p0, h0, w0⟩ := open_part Tryz.underlying56 h 0 rfl (n := 1) (by kernel_rfl)
    obtain ⟨k1, d1, p1, h1, w1⟩ := open_part Tryz.underlying56 h 1 rfl (n := 1) (by kernel_rfl)
    obtain ⟨k2, d2, p2, h2, w2⟩ := open_part Tryz.underlying56 h 2 rfl (n := 1) (by kernel_rfl)
    obtain ⟨s0, e0, x0, _⟩ := DataW.trod_string Tryz.underlying9 h0
    obtain ⟨s1, e1, x1, _⟩ := DataW.trod_string Tryz.underlying9 h1
    obtain ⟨s2, e2, x2, _⟩ := DataW.trod_string Tryz.underlying9 h2
    have hd0 : d0 = .lit (.string s0.data.toList) := (Prod.ext_iff.1 x0).1
    have hd1 : d1 = .lit (.string s1.data.toList) := (Prod.ext_iff.1 x1).1
    have hd2 : d2 = .lit (.string s2.data.toList) := (Prod.ext_iff.1 x2).1
    refine ⟨⟨s0, s1, s2⟩, ?_, w0 _ (by rw [hd0]; simp [DataW.weights]), w1 _ (by rw [hd1]; simp [DataW.weights]), w2 _ (by rw [hd2]; simp [DataW.weights])⟩
    have e0' : c0 = .string s0 := by simpa using e0
    have e1' : c1 = .string s1 := by simpa using e1
    have e2' : c2 = .string s2 := by simpa using e2
    rw [e0', e1', e2']

set_option maxRecDepth 100000 in
theorem open_arg_entries {base : Nat} {v : Value} {d : DataW H} {ps : List MemPlace} (hv : Value.okWide Tryz.prog w .any base 22 v) (h : DataW.Trod enc Tryz.prog w 0 (fun _ => true) true 22 v d ps) (hz : ∀ n ∈ d.weights Tryz.prog 22, n ≤ 140737488351232) :
    ∃ A l c, v = .slice A l.length c ∧ ArgE w A l c := by
  obtain ⟨x, len, cap, rfl⟩ := okWide_slice Tryz.underlying22 hv
  obtain ⟨k, h⟩ := h
  change DataW.trod enc Tryz.prog w 0 (fun _ => true) true k 22 [_] = some (d, ps) at h
  rcases open_row Tryz.underlying22 (n := 3) (by kernel_rfl) (by decide) h with h | ⟨a, len', cap', hveq, hl, hm, hwt, hall⟩
  · cases h
    exact ⟨none, [], 0, rfl, RowC.nil _ _, Nat.le_refl _, by omega, by simp, fun _ => rfl⟩
  · cases hveq
    have each : ∀ i, i < len → ∃ s : Ent, (s.path.size ≤ 140737488351232 ∧ s.type.size ≤ 140737488351232 ∧ s.data.size ≤ 140737488351232) ∧ ∃ bb off, a = ⟨bb, off, none⟩ ∧ bb < w.heap.size ∧ w.cell? ⟨bb, off + i * 3, none⟩ = some (.string s.path) ∧ w.cell? ⟨bb, off + i * 3 + 1, none⟩ = some (.string s.type) ∧ w.cell? ⟨bb, off + i * 3 + 2, none⟩ = some (.string s.data) := fun i hi => by
      obtain ⟨bb, off, cs, D, Pl, k, hA, hb, hlen, hcell, htr, hw⟩ := hall i hi
      obtain ⟨x, rfl, hx1, hx2, hx3⟩ := open_entry hlen htr
      refine ⟨x, ⟨?_, ?_, ?_⟩, bb, off, hA, hb, ?_, ?_, ?_⟩
      · simpa using hz _ (hw _ hx1)
      · simpa using hz _ (hw _ hx2)
      · simpa using hz _ (hw _ hx3)
      · exact hcell 0 (by decide)
      · exact hcell 1 (by decide)
      · exact hcell 2 (by decide)
    obtain ⟨f, hf⟩ := choose_lt (α := Ent) each
    have hcap := hz _ hwt
    rw [show Tryz.prog.bytesOf 56 = 48 by kernel_rfl] at hcap
    refine ⟨some a, (List.range len).map f, cap, by simp, fun j u hj => ?_, by simpa using hl, by omega, fun x hx => ?_, fun h => by cases h⟩
    · obtain ⟨k, x, hk, hx⟩ := entCells_get hj
      have hk' : k < len := by
        have := (List.getElem?_eq_some_iff.1 hk).1
        simpa using this
      have ex : f k = x := by simpa [hk'] using hk
      obtain ⟨_, bb, off, hA, hb, h0, h1, h2⟩ := hf k hk'
      rw [ex] at h0 h1 h2
      rcases hx with ⟨rfl, rfl⟩ | ⟨rfl, rfl⟩ | ⟨rfl, rfl⟩
      · exact ⟨bb, off, by rw [hA], hb, h0⟩
      · exact ⟨bb, off, by rw [hA], hb, h1⟩
      · exact ⟨bb, off, by rw [hA], hb, h2⟩
    · obtain ⟨i, hi, rfl⟩ := List.mem_map.1 hx
      exact (hf i (List.mem_range.1 hi)).1
set_option maxRecDepth 100000 in
theorem open_bytes_at {fuel : Nat} {v : Value} {d : DataW H} {ps : List MemPlace} (h : DataW.trod enc Tryz.prog w 0 (fun _ => true) true fuel 23 [v] = some (d, ps)) (hz : ∀ n ∈ d.weights Tryz.prog 23, n ≤ 140737488351232) :
    ∃ A l c, v = .slice A l.length c ∧ ArgB w A l c := by
  rcases open_row Tryz.underlying23 (n := 1) (by kernel_rfl) (by decide) h with rfl | ⟨a, len, cap, rfl, hl, hm, hwt, hall⟩
  · exact ⟨none, [], 0, rfl, RowC.nil _ _, Nat.le_refl _, by omega, fun _ => rfl⟩
  · have each : ∀ i, i < len → ∃ s : UInt8, True ∧ ∃ bb off, a = ⟨bb, off, none⟩ ∧ bb < w.heap.size ∧ w.cell? ⟨bb, off + i, none⟩ = some (.int .u8 s.toNat) := fun i hi => by
      obtain ⟨bb, off, cs, D, Pl, k, hA, hb, hlen, hcell, htr, hw⟩ := hall i hi
      obtain ⟨n, rfl, _, hwf⟩ := DataW.trod_int Tryz.underlying5 htr
      have hn : 0 ≤ n ∧ n ≤ 255 := by
        simpa [Lit.wf, IntKind.min, IntKind.max, IntKind.signed, IntKind.bits] using hwf
      refine ⟨UInt8.ofNat n.toNat, trivial, bb, off, hA, hb, ?_⟩
      have h0 := hcell 0 (by decide)
      rw [Nat.mul_one, Nat.add_zero] at h0
      rw [h0]
      have e : ((UInt8.ofNat n.toNat).toNat : Int) = n := by
        rw [UInt8.toNat_ofNat']
        omega
      rw [e]
      rfl
    obtain ⟨f, hf⟩ := choose_lt (α := UInt8) each
    have hcap := hz _ hwt
    rw [show Tryz.prog.bytesOf 5 = 1 by kernel_rfl] at hcap
    refine ⟨some a, (List.range len).map f, cap, by simp, fun j u hj => ?_, by simpa using hl, by omega, fun h => by cases h⟩
    have hj' : j < len := by
      have := (List.getElem?_eq_some_iff.1 hj).1
      simpa [byteV] using this
    obtain ⟨_, bb, off, hA, hb, h0⟩ := hf j hj'
    have eu : u = .int .u8 ((f j).toNat : Int) := by
      have : (byteV ((List.range len).map f))[j]? = some (.int .u8 ((f j).toNat : Int)) := by simp [byteV, hj']
      exact Option.some.inj (hj.symm.trans this)
    rw [eu]
    exact ⟨bb, off, by rw [hA], hb, h0⟩
set_option maxRecDepth 100000 in
theorem open_arg_bytes {base : Nat} {v : Value} {d : DataW H} {ps : List MemPlace} (hv : Value.okWide Tryz.prog w .any base 23 v) (h : DataW.Trod enc Tryz.prog w 0 (fun _ => true) true 23 v d ps) (hz : ∀ n ∈ d.weights Tryz.prog 23, n ≤ 140737488351232) :
    ∃ A l c, v = .slice A l.length c ∧ ArgB w A l c := by
  obtain ⟨x, len, cap, rfl⟩ := okWide_slice Tryz.underlying23 hv
  obtain ⟨k, hk⟩ := h
  exact open_bytes_at hk hz
/-- What is known of a request that came in. -/
def ArgR (w : World) (q : Rq) (A : Option Addr) (c : Nat) (B : Option Addr) (d : Nat) : Prop :=
  ArgF w A q.fs c ∧ ArgB w B q.body d ∧ q.m.size ≤ 140737488351232 ∧ q.host.size ≤ 140737488351232 ∧ q.path.size ≤ 140737488351232 ∧ q.query.size ≤ 140737488351232 ∧ (Lit.int .i64 q.form).wf = true ∧ (Lit.int .i64 q.minor).wf = true
end
end Go.Proofs.YtiglfbimijnpcaaGreatDoor

