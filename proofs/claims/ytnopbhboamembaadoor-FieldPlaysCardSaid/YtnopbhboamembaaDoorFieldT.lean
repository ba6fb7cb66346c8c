/- FieldPlays: the two of them side by side in memory. -/
import Derived.Test.YtnopbhboamembaaDoorFieldS
namespace Go.Proofs.YtnopbhboamembaaDoor
open Go.RowKit Go.Proofs

/-- A field.Fields of Lf at g, a usherref10.Fields of Lx at gx, in blocks of their own that came behind w0. -/
structure Two (w0 wr : World) (g gx : Nat) (v vx : Value) (Lf Lx : List Fld) : Prop where
  f : IsFields wr w0.heap.size g 69 v Lf
  x : IsFields wr w0.heap.size gx 31 vx Lx
  ne : g ≠ gx
  fx : ∀ b, v.ownBlock = some b → b ≠ gx ∧ vx.ownBlock ≠ some b
  xf : ∀ b, vx.ownBlock = some b → b ≠ g
  g0 : w0.heap.size ≤ g
  gx0 : w0.heap.size ≤ gx
  sm : Sm No w0 wr

section
variable {w0 wr w' : World} {g gx : Nat} {v vx v' : Value} {Lf Lx L' : List Fld}
theorem Two.no (h : Two w0 wr g gx v vx Lf Lx) (hs : Sm No wr w') : Two w0 w' g gx v vx Lf Lx :=
  ⟨h.f.no hs, h.x.no hs, h.ne, h.fx, h.xf, h.g0, h.gx0, h.sm.trans hs (fun _ _ h => h)⟩
theorem Two.stepF (h : Two w0 wr g gx v vx Lf Lx) (hs : Sm (TouchF g v) wr w') (hF : IsFields w' w0.heap.size g 69 v' L') (hv : ∀ b, v'.ownBlock = some b → v.ownBlock = some b ∨ wr.heap.size ≤ b) : Two w0 w' g gx v' vx L' Lx := by
  have hl := h.f.lt
  have hxl := h.x.lt
  refine ⟨hF, h.x.sm hs (fun e => ?_) (fun b hb e => ?_), h.ne, fun b hb => ?_, h.xf, h.g0, h.gx0, h.sm.trans hs (fun b hb e => ?_)⟩
  · rcases e with e | e
    · exact h.ne e.symm
    · exact (h.fx _ e).1 rfl
  · rcases e with e | e
    · exact h.xf b hb e
    · exact (h.fx b e).2 hb
  · rcases hv b hb with e | e
    · exact h.fx b e
    · refine ⟨by omega, fun e2 => ?_⟩
      have := (hxl.2 b e2).2
      omega
  · have hg := h.g0
    rcases e with e | e
    · omega
    · have := (hl.2 b e).1; omega
theorem Two.stepX (h : Two w0 wr g gx v vx Lf Lx) (hs : Sm (TouchF gx vx) wr w') (hX : IsFields w' w0.heap.size gx 31 v' L') (hv : ∀ b, v'.ownBlock = some b → vx.ownBlock = some b ∨ wr.heap.size ≤ b) : Two w0 w' g gx v v' Lf L' := by
  have hl := h.f.lt
  have hxl := h.x.lt
  refine ⟨h.f.sm hs (fun e => ?_) (fun b hb e => ?_), hX, h.ne, fun b hb => ⟨(h.fx b hb).1, fun e => ?_⟩, fun b hb => ?_, h.g0, h.gx0, h.sm.trans hs (fun b hb e => ?_)⟩
  · rcases e with e | e
    · exact h.ne e
    · exact h.xf _ e rfl
  · rcases e with e | e
    · exact (h.fx b hb).1 e
    · exact (h.fx b hb).2 e
  · rcases hv b e with e | e
    · exact (h.fx b hb).2 e
    · have := (hl.2 b hb).2; omega
  · rcases hv b hb with e | e
    · exact h.xf b e
    · omega
  · have hg := h.gx0
    rcases e with e | e
    · omega
    · have := (hxl.2 b e).1; omega
theorem follows_or {w : World} {v0 v : Value} (h : Follows w v0 v) : ∀ b, v.ownBlock = some b → v0.ownBlock = some b ∨ w.heap.size ≤ b := fun b hb => by
  rcases h with e | ⟨q, e, hq⟩
  · exact Or.inl (e ▸ hb)
  · rw [e] at hb; injection hb with hb; exact Or.inr (hb ▸ hq)
end

theorem addL_short : ∀ (l cur : List Fld), Short cur → Short l → Short (addL cur l).1 := fun l cur hc hl x hx => by
  rcases addL_mem l cur x hx with h | ⟨h, _⟩
  · exact hc x h
  · exact hl x h
theorem addL_le : ∀ (l cur : List Fld), cur.length ≤ 24 → (addL cur l).1.length ≤ 24
  | [], cur, h => by simpa [addL] using h
  | y :: l, cur, h => by
    rw [addL]
    split
    · exact h
    · split
      · exact h
      · exact addL_le l _ (by simp; omega)

/-- append([]api.Field{}, l...): a row of its own. -/
theorem copy_law {w : World} {A : Option Addr} {c : Nat} {l : List Fld} (h : ArgF w A l c) : (A = none → l = []) := fun e => by
  have := h.2.2.2.2 e
  exact List.eq_nil_of_length_eq_zero (by have := h.2.1; omega)
end Go.Proofs.YtnopbhboamembaaDoor
