/- Arguments opened: rows of patterns that are laid. -/
import Derived.Test.YtnopbhboamembaaDoorTexts
import Derived.Test.YtnopbhboamembaaDoorOpen
namespace Go.Proofs.YtnopbhboamembaaDoor
open Go.RowKit Go.WideShapes Go.ChangeShapes Go.Proofs Go.Deep

structure LaidA where
  pat : ByteArray
  id : Int
  ma : Option Addr
  mc : Nat
  ms : List ByteArray
instance : Inhabited LaidA := ⟨⟨⟨#[]⟩, 0, none, 0, []⟩⟩

def LRow (w : World) (A : Option Addr) (l : List LaidA) : Prop :=
  ∀ k, (h : k < l.length) → (∃ bb off, A = some ⟨bb, off, none⟩ ∧ bb < w.heap.size ∧ w.cell? ⟨bb, off + k * 3, none⟩ = some (.string l[k].pat) ∧ w.cell? ⟨bb, off + k * 3 + 1, none⟩ = some (.int .i64 l[k].id) ∧
    w.cell? ⟨bb, off + k * 3 + 2, none⟩ = some (.slice l[k].ma l[k].ms.length l[k].mc)) ∧ ArgS w l[k].ma l[k].ms l[k].mc
def ArgL (w : World) (A : Option Addr) (l : List LaidA) (c : Nat) : Prop :=
  LRow w A l ∧ l.length ≤ c ∧ c ≤ 4398046511104 ∧ (∀ x ∈ l, x.pat.size ≤ 140737488351232) ∧ (A = none → c = 0)
theorem LRow.no {w w' : World} {A : Option Addr} {l : List LaidA} (h : LRow w A l) (hs : Sm No w w') : LRow w' A l := by
  intro k hk
  obtain ⟨⟨bb, off, hA, hb, h0, h1, h2⟩, hf⟩ := h k hk
  exact ⟨⟨bb, off, hA, Nat.lt_of_lt_of_le hb hs.size, hs.cell hb h0, hs.cell hb h1, hs.cell hb h2⟩, hf.no hs⟩

section
variable {H : Type} {enc : TypeId × Value → H} {w : World}
set_option maxRecDepth 100000 in
theorem open_arg_laids {base : Nat} {v : Value} {d : DataW H} {ps : List MemPlace} (hv : Value.okWide Tryd.prog w .any base 50 v) (h0 : DataW.Trod enc Tryd.prog w 0 (fun _ => true) true 50 v d ps) (hz : ∀ n ∈ d.weights Tryd.prog 50, n ≤ 140737488351232) :
    ∃ A l c, v = .slice A l.length c ∧ ArgL w A l c := by
  obtain ⟨x, len, cap, rfl⟩ := okWide_slice Tryd.underlying50 hv
  obtain ⟨k, h⟩ := h0
  change DataW.trod enc Tryd.prog w 0 (fun _ => true) true k 50 [_] = some (d, ps) at h
  rcases open_row Tryd.underlying50 (n := 3) (by kernel_rfl) (by decide) h with h | ⟨a, len', cap', hveq, hl, hm, hwt, hall⟩
  · cases h
    exact ⟨none, [], 0, rfl, fun k hk => absurd hk (by simp), Nat.le_refl _, by omega, by simp, fun _ => rfl⟩
  · cases hveq
    have each : ∀ i, i < len → ∃ s : LaidA, (s.pat.size ≤ 140737488351232 ∧ ArgS w s.ma s.ms s.mc) ∧ ∃ bb off, a = ⟨bb, off, none⟩ ∧ bb < w.heap.size ∧ w.cell? ⟨bb, off + i * 3, none⟩ = some (.string s.pat) ∧
        w.cell? ⟨bb, off + i * 3 + 1, none⟩ = some (.int .i64 s.id) ∧ w.cell? ⟨bb, off + i * 3 + 2, none⟩ = some (.slice s.ma s.ms.length s.mc) := fun i hi => by
      obtain ⟨bb, off, cs, D, Pl, k, hA, hb, hlen, hcell, htr, hw⟩ := hall i hi
      match cs, hlen with
      | [c0, c1, c2], _ =>
        obtain ⟨k0, d0, p0, g0, w0⟩ := open_part Tryd.underlying56 htr 0 rfl (n := 1) (by kernel_rfl)
        obtain ⟨k1, d1, p1, g1, w1⟩ := open_part Tryd.underlying56 htr 1 rfl (n := 1) (by kernel_rfl)
        obtain ⟨k2, d2, p2, g2, w2⟩ := open_part Tryd.underlying56 htr 2 rfl (n := 1) (by kernel_rfl)
        obtain ⟨s0, e0, x0, _⟩ := DataW.trod_string Tryd.underlying9 g0
        obtain ⟨z1, e1, _, _⟩ := DataW.trod_int Tryd.underlying3 g1
        have hd0 : d0 = .lit (.string s0.data.toList) := (Prod.ext_iff.1 x0).1
        have e0' : c0 = .string s0 := by simpa using e0
        have e1' : c1 = .int .i64 z1 := by simpa using e1
        obtain ⟨B, l, c, e2, hB⟩ := open_strs_at (v := c2) Tryd.underlying39 Tryd.underlying9 (by kernel_rfl) (by kernel_rfl) g2 (fun n hn => hz n (hw n (w2 n hn)))
        subst e0' e1' e2
        refine ⟨⟨s0, z1, B, c, l⟩, ⟨?_, hB⟩, bb, off, hA, hb, ?_, ?_, ?_⟩
        · simpa using hz _ (hw _ (w0 _ (by rw [hd0]; simp [DataW.weights])))
        · exact hcell 0 (by decide)
        · exact hcell 1 (by decide)
        · exact hcell 2 (by decide)
    obtain ⟨f, hf⟩ := choose_lt (α := LaidA) each
    have hcap := hz _ hwt
    rw [show Tryd.prog.bytesOf 56 = 48 by kernel_rfl] at hcap
    refine ⟨some a, (List.range len).map f, cap, by simp, fun k hk => ?_, by simpa using hl, by omega, fun x hx => ?_, fun h => by cases h⟩
    · have hk' : k < len := by simpa using hk
      obtain ⟨⟨_, hF⟩, bb, off, hA, hb, h1, h2, h3⟩ := hf k hk'
      refine ⟨⟨bb, off, by rw [hA], hb, by simpa using h1, by simpa using h2, by simpa using h3⟩, ?_⟩
      have e : ((List.range len).map f)[k] = f k := by simp
      rw [e]
      exact hF
    · obtain ⟨i, hi, rfl⟩ := List.mem_map.1 hx
      exact (hf i (List.mem_range.1 hi)).1.1
end
end Go.Proofs.YtnopbhboamembaaDoor
