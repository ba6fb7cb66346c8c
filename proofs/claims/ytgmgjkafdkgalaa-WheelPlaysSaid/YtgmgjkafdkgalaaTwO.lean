/- An argument opened: a script for Wheels. -/
import Derived.Test.YtgmgjkafdkgalaaOpen
import Derived.Test.YtgmgjkafdkgalaaWhM
namespace Go.Proofs.Ytgmgjkafdkgalaa
open Go.RowKit Go.WideShapes Go.ChangeShapes Go.Proofs Go.Deep

structure ActA where
  kind : Int
  n : Int
  k : Int
  h : Hd
instance : Inhabited ActA := ⟨⟨0, 0, 0, ⟨0, 0⟩⟩⟩
def ActIs (w : World) (a : Addr) (i : Nat) (x : ActA) : Prop :=
  ∃ bb off, a = ⟨bb, off, none⟩ ∧ bb < w.heap.size ∧ w.cell? ⟨bb, off + i * 5, none⟩ = some (.int .i64 x.kind) ∧ w.cell? ⟨bb, off + i * 5 + 1, none⟩ = some (.int .i64 x.n) ∧ w.cell? ⟨bb, off + i * 5 + 2, none⟩ = some (.int .i64 x.k) ∧
    w.cell? ⟨bb, off + i * 5 + 3, none⟩ = some (.int .i64 x.h.slot) ∧ w.cell? ⟨bb, off + i * 5 + 4, none⟩ = some (.int .i64 x.h.gen)
def ActWf (x : ActA) : Prop := (Lit.int .i64 x.kind).wf = true ∧ (Lit.int .i64 x.n).wf = true ∧ (Lit.int .i64 x.k).wf = true ∧ okH x.h
def ActR (w : World) (A : Option Addr) (l : List ActA) : Prop :=
  l.length ≤ maxLen ∧ ∀ i x, l[i]? = some x → ActWf x ∧ ∃ a, A = some a ∧ ActIs w a i x
section
variable {H : Type} {enc : TypeId × Value → H} {w : World}
set_option maxRecDepth 100000 in
theorem open_arg_acts6 {base : Nat} {v : Value} {d : DataW H} {ps : List MemPlace} (hv : Value.okWide Try.prog w .any base 46 v) (h0 : DataW.Trod enc Try.prog w 0 (fun _ => true) true 46 v d ps) :
    ∃ A l c, v = .slice A l.length c ∧ ActR w A l := by
  obtain ⟨x, len, cap, rfl⟩ := okWide_slice Try.underlying46 hv
  obtain ⟨k, h⟩ := h0
  change DataW.trod enc Try.prog w 0 (fun _ => true) true k 46 [_] = some (d, ps) at h
  rcases open_row Try.underlying46 (n := 5) (by kernel_rfl) (by decide) h with h | ⟨a, len', cap', hveq, hl, hm, hwt, hall⟩
  · cases h
    exact ⟨none, [], 0, rfl, by simp, fun i x hi => by cases hi⟩
  · cases hveq
    have each : ∀ i, i < len → ∃ x : ActA, ActWf x ∧ ActIs w a i x := fun i hi => by
      obtain ⟨bb, off, cs, D, Pl, k, hA, hb, hlen, hcell, htr, hw⟩ := hall i hi
      match cs, hlen with
      | [c0, c1, c2, c3, c4], _ =>
        obtain ⟨k0, d0, p0, g0, w0⟩ := open_part Try.underlying51 htr 0 rfl (n := 1) (by kernel_rfl)
        obtain ⟨k1, d1, p1, g1, w1⟩ := open_part Try.underlying51 htr 1 rfl (n := 1) (by kernel_rfl)
        obtain ⟨k2, d2, p2, g2, w2⟩ := open_part Try.underlying51 htr 2 rfl (n := 1) (by kernel_rfl)
        obtain ⟨k3, d3, p3, g3, w3⟩ := open_part Try.underlying51 htr 3 rfl (n := 2) (by kernel_rfl)
        obtain ⟨k4, d4, p4, g4, w4⟩ := open_part Try.underlying29 g3 0 rfl (n := 1) (by kernel_rfl)
        obtain ⟨k5, d5, p5, g5, w5⟩ := open_part Try.underlying29 g3 1 rfl (n := 1) (by kernel_rfl)
        obtain ⟨z0, e0, _, v0⟩ := DataW.trod_int Try.underlying3 g0
        obtain ⟨z1, e1, _, v1⟩ := DataW.trod_int Try.underlying3 g1
        obtain ⟨z2, e2, _, v2⟩ := DataW.trod_int Try.underlying3 g2
        obtain ⟨z4, e4, _, v4⟩ := DataW.trod_int Try.underlying3 g4
        obtain ⟨z5, e5, _, v5⟩ := DataW.trod_int Try.underlying3 g5
        have e0' : c0 = .int .i64 z0 := by simpa using e0
        have e1' : c1 = .int .i64 z1 := by simpa using e1
        have e2' : c2 = .int .i64 z2 := by simpa using e2
        have e4' : c3 = .int .i64 z4 := by simpa using e4
        have e5' : c4 = .int .i64 z5 := by simpa using e5
        subst e0' e1' e2' e4' e5'
        exact ⟨⟨z0, z1, z2, ⟨z4, z5⟩⟩, ⟨v0, v1, v2, v4, v5⟩, bb, off, hA, hb, hcell 0 (by decide), hcell 1 (by decide), hcell 2 (by decide), hcell 3 (by decide), hcell 4 (by decide)⟩
    obtain ⟨f, hf⟩ := choose_lt (α := ActA) each
    refine ⟨some a, (List.range len).map f, cap, by simp, by simp; omega, fun i x hi => ?_⟩
    rw [List.getElem?_map, Option.map_eq_some_iff] at hi
    obtain ⟨j, hj, rfl⟩ := hi
    have hj2 := List.getElem?_eq_some_iff.1 hj
    obtain ⟨hj3, hj4⟩ := hj2
    have hi2 : i < len := by simpa using hj3
    have : i = j := by simpa using hj4
    subst this
    exact ⟨(hf i hi2).1, a, rfl, (hf i hi2).2⟩
end
end Go.Proofs.Ytgmgjkafdkgalaa
