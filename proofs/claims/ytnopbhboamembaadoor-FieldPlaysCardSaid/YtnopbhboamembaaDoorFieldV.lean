/- FieldPlays: Drop of two names by both, as steps of the two that stand side by side. -/
import Derived.Test.YtnopbhboamembaaDoorFieldT
namespace Go.Proofs.YtnopbhboamembaaDoor
open Go.RowKit Go.Proofs

theorem srow2 {w : World} {t : TypeId} {g : Nat} {x y : ByteArray} (hb : Bk w g t #[.string x, .string y]) : SRow w (some ⟨g, 0, none⟩) [x, y] := by
  intro k hk
  have hk2 : k < 2 := hk
  rcases Nat.lt_or_ge k 1 with h | h
  · obtain rfl : k = 0 := by omega
    exact ⟨_, 0, rfl, hb.lt, hb.at 0 rfl⟩
  · obtain rfl : k = 1 := by omega
    exact ⟨_, 0, rfl, hb.lt, hb.at 1 rfl⟩

/-- The blocks from n on that are known in w are known in w'. -/
def KeepNew (n : Nat) (w w' : World) : Prop := ∀ b t cs, n ≤ b → Bk w b t cs → Bk w' b t cs

theorem dropF_two {w0 wr w : World} {g gx : Nat} {v vx : Value} {L M : List Fld} {nm ot : ByteArray} {nd : Nat} (h : Two w0 wr g gx v vx L L) (hs : Sm No wr w) (hL : L.length ≤ 1000000) (hsh : Short L)
    (hn : ∀ s ∈ [nm, ot], s.size ≤ 1000000) (hM : leftL [nm, ot] L = M) (hnd : L.length - M.length = nd) {b : Nat} {t : TypeId} (hb : Bk w b t #[.string nm, .string ot]) (hwb : wr.heap.size ≤ b) :
    Calls Tryd.prog 20 #[.pointer (some ⟨g, 0, none⟩), .slice (some ⟨b, 0, none⟩) 2 2] w fun e w' =>
      ∃ v1, e = .returned (.int .i64 nd) ∧ Two w0 w' g gx v1 vx M L ∧ KeepNew wr.heap.size w w' := by
  have hl := h.f.lt
  have h1 := h.no hs
  refine (drop_any w w0.heap.size g v L (some ⟨b, 0, none⟩) 2 [nm, ot] h1.f hL hsh (srow2 hb) (fun a ha => ?_) (by simp) hn).mono ?_
  · injection ha with ha
    subst ha
    refine ⟨hb.lt, fun e => ?_⟩
    rcases e with e | e
    · have : b = g := e
      omega
    · have := (hl.2 _ e).2
      have h2 : b < wr.heap.size := this
      omega
  rintro e w' ⟨v1, he, hF, ho, hsd⟩
  rw [hM] at he hF
  rw [hnd] at he
  refine ⟨v1, he, h1.stepF hsd hF (fun b hb => Or.inl (ho ▸ hb)), fun b t cs hwb hk => hk.sm hsd (fun e => ?_)⟩
  rcases e with e | e
  · omega
  · have := (hl.2 _ e).2; omega

theorem dropX_two {w0 wr w1 w : World} {g gx : Nat} {v vx : Value} {Lf L M : List Fld} {nm ot : ByteArray} {nd : Nat} (h : Two w0 w1 g gx v vx Lf L) (hs : Sm No w1 w) (hr : gx < wr.heap.size) (hL : L.length ≤ 1000000) (hsh : Short L)
    (hn : ∀ s ∈ [nm, ot], s.size ≤ 1000000) (hM : leftL [nm, ot] L = M) (hnd : L.length - M.length = nd) {b : Nat} {t : TypeId} (hb : Bk w b t #[.string nm, .string ot]) :
    Calls Tryd.prog 21 #[.pointer (some ⟨gx, 0, none⟩), .slice (some ⟨b, 0, none⟩) 2 2] w fun e w' =>
      ∃ v1, e = .returned (.int .i64 nd) ∧ Two w0 w' g gx v v1 Lf M ∧ KeepNew wr.heap.size w w' := by
  have h1 := h.no hs
  refine (rDrop_any w w0.heap.size gx vx L (some ⟨b, 0, none⟩) 2 [nm, ot] h1.x hL hsh (srow2 hb) (by simp) hn ?_).mono ?_
  · exact h1.sm.size
  rintro e w' ⟨v1, he, hX, hsd, ho⟩
  rw [hM] at he hX
  rw [hnd] at he
  exact ⟨v1, he, h1.stepX (hsd.mono (fun _ _ e => Or.inl e)) hX (fun b hb => Or.inr (ho b hb)), fun b t cs hwb hk => hk.sm hsd (fun e => by omega)⟩
end Go.Proofs.YtnopbhboamembaaDoor
