/- The document's Slab (usherref2): its words, Is. -/
import Derived.Test.YtgmgjkafdkgalaaWhP
namespace Go.Proofs.Ytgmgjkafdkgalaa
open Go.RowKit Go.Proofs Go.Maps

def usedN (l : List Sl) : Nat := (l.filter (·.u)).length
theorem usedN_le (l : List Sl) : usedN l ≤ l.length := List.length_filter_le _ _
def uL (l : List Sl) : List Value := l.map fun x => .bool x.u
def gL (l : List Sl) : List Value := l.map fun x => .int .i64 x.g
def vL (l : List Sl) : List Value := l.map fun x => .int .i64 x.v
theorem uL_at {l : List Sl} {k : Nat} {x : Sl} (h : l[k]? = some x) : (uL l)[k]? = some (.bool x.u) ∧ (gL l)[k]? = some (.int .i64 x.g) ∧ (vL l)[k]? = some (.int .i64 x.v) := by
  simp [uL, gL, vL, h]
/-- The document's Slab with the slots l; its blocks are of O. -/
def RSl (w : World) (O : Nat → Prop) (s : Nat) (l : List Sl) : Prop :=
  ∃ uv gv vv, Bk w s 103 #[.int .i64 4096, uv, gv, vv, .int .i64 (usedN l)] ∧ w.ownsRow 0 4 1 uv l.length (uL l) ∧ w.ownsRow 0 3 1 gv l.length (gL l) ∧ w.ownsRow 0 3 1 vv l.length (vL l) ∧
    (∀ b, gv.ownBlock = some b → vv.ownBlock ≠ some b) ∧ O s ∧ (∀ b, uv.ownBlock = some b ∨ gv.ownBlock = some b ∨ vv.ownBlock = some b → O b) ∧ ∀ b, O b → b < w.heap.size
theorem RSl.sm {S O : Nat → Prop} {w w' : World} {s : Nat} {l : List Sl} (h : RSl w O s l) (hs : Sm S w w') (hS : ∀ b, O b → ¬ S b) : RSl w' O s l := by
  obtain ⟨uv, gv, vv, h1, h2, h3, h4, h5, h6, h7, h8⟩ := h
  exact ⟨uv, gv, vv, h1.sm hs (hS s h6), own_row_sm h2 hs (fun b hb => hS b (h7 b (Or.inl hb))), own_row_sm h3 hs (fun b hb => hS b (h7 b (Or.inr (Or.inl hb)))), own_row_sm h4 hs (fun b hb => hS b (h7 b (Or.inr (Or.inr hb)))), h5, h6, h7, fun b hb => Nat.lt_of_lt_of_le (h8 b hb) hs.size⟩
theorem RSl.no {O : Nat → Prop} {w w' : World} {s : Nat} {l : List Sl} (h : RSl w O s l) (hs : Sm No w w') : RSl w' O s l := h.sm hs (fun _ _ h => h)

set_option maxRecDepth 100000 in
set_option maxHeartbeats 4000000 in
theorem rsIs_any (w : World) (O : Nat → Prop) (s : Nat) (l : List Sl) (h : Hd) (hR : RSl w O s l) (ok : okH h) :
    Calls Try.prog 50 #[.pointer (some ⟨s, 0, none⟩), .agg #[.int .i64 h.slot, .int .i64 h.gen]] w fun e w' => e = .returned (.bool (isB l h)) ∧ Sm No w w' := by
  obtain ⟨uv, gv, vv, h1, h2, h3, h4, h5, h6, h7, h8⟩ := hR
  obtain ⟨Au, cu, rfl, hRu, _⟩ := own_rowC h2
  obtain ⟨Ag, cg, rfl, hRg, _⟩ := own_rowC h3
  obtain ⟨hs, hg⟩ := h
  have hs0 := (Sm.refl No w).alloc (.cells #[.int .i64 hs, .int .i64 hg] 29)
  have b1 := h1.no hs0
  have c1 := b1.at 1 (v := .slice Au l.length cu) rfl
  have c2 := b1.at 2 (v := .slice Ag l.length cg) rfl
  have hsl := b1.lt
  have H := Lib.hid (And.intro hs0 (And.intro (hRu.no hs0) (hRg.no hs0)))
  clear h1 h2 h3 h4 h5 h6 h7 h8 hRu hRg hs0 b1
  by_cases hin : 0 ≤ hs ∧ hs < l.length
  · obtain ⟨k, rfl⟩ := Int.eq_ofNat_of_zero_le hin.1
    have hk : k < l.length := by omega
    obtain ⟨x, hx⟩ : ∃ x, l[k]? = some x := ⟨_, List.getElem?_eq_getElem hk⟩
    obtain ⟨e1, e2, _⟩ := uL_at hx
    obtain ⟨bu, ou, hAu, _, r1⟩ := H.out.2.1.at e1
    obtain ⟨bg, og, hAg, _, r2⟩ := H.out.2.2.at e2
    subst hAu hAg
    have hB : isB l ⟨(k : Int), hg⟩ = (x.u && decide ((x.g : Int) = hg)) := by
      unfold isB
      simp [hx]
    rw [hB]
    obtain ⟨xu, hxu⟩ : ∃ u, x.u = u := ⟨_, rfl⟩
    obtain ⟨xg, hxg⟩ : ∃ u, x.g = u := ⟨_, rfl⟩
    rw [hxu, hxg] at hB ⊢
    rw [hxu] at r1
    rw [hxg] at r2
    have k1 : (0 : Int) ≤ (k : Int) := by omega
    have k2 : (k : Int) < (l.length : Int) := by omega
    clear hB hx hxu hxg e1 e2 hin
    have k3 : decide ((0 : Int) ≤ (k : Int)) = true := by simp
    have k4 : decide ((k : Int) < (l.length : Int)) = true := by simp; omega
    cases xu
    · go_enter Try.func50, Try.ntmps50
      go_wp2_with fail
      go_quiet (fail)
      go_wp2_with fail
      go_ret
      exact ⟨by simp, H.out.1.drewN _⟩
    · go_enter Try.func50, Try.ntmps50
      go_wp2_with fail
      go_quiet (fail)
      go_wp2_with fail
      go_ret
      refine ⟨?_, H.out.1.drewN _⟩
      congr 2
  · have hB : isB l ⟨hs, hg⟩ = false := by
      unfold isB
      by_cases h0 : 0 ≤ hs
      · rw [List.getElem?_eq_none (by simp; omega)]; simp
      · simp [h0]
    rw [hB]
    clear hB
    by_cases h0 : 0 ≤ hs
    · have k3 : decide ((0 : Int) ≤ hs) = true := by simpa using h0
      have k4 : decide (hs < (l.length : Int)) = false := by simp; omega
      go_enter Try.func50, Try.ntmps50
      go_wp2_with fail
      go_quiet (fail)
      go_wp2_with fail
      go_ret
      exact ⟨rfl, H.out.1.drewN _⟩
    · have k3 : decide ((0 : Int) ≤ hs) = false := by simpa using h0
      go_enter Try.func50, Try.ntmps50
      go_wp2_with fail
      go_quiet (fail)
      go_wp2_with fail
      go_ret
      exact ⟨rfl, H.out.1.drewN _⟩
end Go.Proofs.Ytgmgjkafdkgalaa
