/- The document's Slab (usherref2): what Put has done. -/
import Derived.Test.YtgmgjkafdkgalaaTwT
namespace Go.Proofs.Ytgmgjkafdkgalaa
open Go.RowKit Go.Proofs Go.Maps

theorem usedN_on {l : List Sl} {k g : Nat} {v : Int} {x : Sl} (hx : l[k]? = some x) (hu : x.u = false) : usedN (l.set k ⟨g, true, v⟩) = usedN l + 1 := by
  induction l generalizing k with
  | nil => simp at hx
  | cons y r ih =>
    cases k with
    | zero =>
      simp at hx
      subst hx
      simp [usedN, hu]
    | succ k =>
      have := ih (k := k) (by simpa using hx)
      unfold usedN at this ⊢
      rw [List.set_cons_succ, List.filter_cons, List.filter_cons]
      split
      · simp only [List.length_cons]; omega
      · omega
theorem rows_on (l : List Sl) (k g : Nat) (v : Int) : uL (l.set k ⟨g, true, v⟩) = (uL l).set k (.bool true) ∧ gL (l.set k ⟨g, true, v⟩) = (gL l).set k (.int .i64 g) ∧ vL (l.set k ⟨g, true, v⟩) = (vL l).set k (.int .i64 v) := by
  refine ⟨by simp [uL, List.map_set], by simp [gL, List.map_set], by simp [vL, List.map_set]⟩
theorem rows_snoc (l : List Sl) : uL (l ++ [⟨0, false, 0⟩]) = uL l ++ [.bool false] ∧ gL (l ++ [⟨0, false, 0⟩]) = gL l ++ [.int .i64 0] ∧ vL (l ++ [⟨0, false, 0⟩]) = vL l ++ [.int .i64 0] := by
  refine ⟨by simp [uL], by simp [gL], by simp [vL]⟩
theorem usedN_snoc (l : List Sl) : usedN (l ++ [⟨0, false, 0⟩]) = usedN l := by simp [usedN]
def RPost (w : World) (O : Nat → Prop) (s : Nat) (l : List Sl) (w' : World) : Prop := ∃ O' : Nat → Prop, RSl w' O' s l ∧ Sm O w w' ∧ ∀ b, O' b → O b ∨ w.heap.size ≤ b
/-- The rows of a Slab with blocks of its own, apart from each other. -/
theorem rput_done {W W3 : World} {O1 : Nat → Prop} {s rb i bu bg bv cu cg cv : Nat} {L : List Sl} {x : Sl} {v : Int} {y0 y1 : Value}
    (hb : Bk W s 103 #[.int .i64 4096, .slice (some ⟨bu, 0, none⟩) L.length cu, .slice (some ⟨bg, 0, none⟩) L.length cg, .slice (some ⟨bv, 0, none⟩) L.length cv, .int .i64 (usedN L)])
    (hu : W.ownsRow 0 4 1 (.slice (some ⟨bu, 0, none⟩) L.length cu) L.length (uL L)) (hg : W.ownsRow 0 3 1 (.slice (some ⟨bg, 0, none⟩) L.length cg) L.length (gL L)) (hv : W.ownsRow 0 3 1 (.slice (some ⟨bv, 0, none⟩) L.length cv) L.length (vL L))
    (hap : bg ≠ bv) (n1 : bu ≠ s) (n2 : bg ≠ s) (n3 : bv ≠ s) (n4 : bu ≠ bg) (n5 : bu ≠ bv) (r0 : rb ≠ s) (r1 : rb ≠ bu) (r2 : rb ≠ bg) (r3 : rb ≠ bv) (hx : L[i]? = some x) (hxu : x.u = false)
    (o1 : O1 s) (o2 : O1 bu) (o3 : O1 bg) (o4 : O1 bv) (hlt : ∀ b, O1 b → b < W.heap.size)
    (e : (((((W.setCell ⟨bu, i, none⟩ (.bool true)).setCell ⟨bg, i, none⟩ (.int .i64 ((x.g : Int) + 1))).setCell ⟨bv, i, none⟩ (.int .i64 v)).setCell ⟨s, 4, none⟩ (.int .i64 ((usedN L : Int) + 1))).setCell ⟨rb, 0, none⟩ y0).setCell ⟨rb, 1, none⟩ y1 = W3) :
    RSl W3 O1 s (L.set i ⟨x.g + 1, true, v⟩) ∧ Sm (fun b => O1 b ∨ b = rb) W W3 := by
  have hs : Sm (fun b => O1 b ∨ b = rb) W W3 := by
    rw [← e]
    exact ((((((Sm.refl _ W).setS (Or.inl o2) _ _).setS (Or.inl o3) _ _).setS (Or.inl o4) _ _).setS (Or.inl o1) _ _).setS (Or.inr rfl) _ _).setS (Or.inr rfl) _ _
  obtain ⟨t1, t2, t3⟩ := rows_on L i (x.g + 1) v
  refine ⟨⟨.slice (some ⟨bu, 0, none⟩) L.length cu, .slice (some ⟨bg, 0, none⟩) L.length cg, .slice (some ⟨bv, 0, none⟩) L.length cv, ?_, ?_, ?_, ?_, ?_, o1, ?_, fun b h => Nat.lt_of_lt_of_le (hlt b h) hs.size⟩, hs⟩
  · have h := (((((hb.far (p := ⟨bu, i, none⟩) (fun e => n1 e.symm) (.bool true)).far (p := ⟨bg, i, none⟩) (fun e => n2 e.symm) (.int .i64 ((x.g : Int) + 1))).far (p := ⟨bv, i, none⟩) (fun e => n3 e.symm) (.int .i64 v)).set 4 (.int .i64 ((usedN L : Int) + 1))).far (p := ⟨rb, 0, none⟩) (fun e => r0 e.symm) y0).far (p := ⟨rb, 1, none⟩) (fun e => r0 e.symm) y1
    rw [e] at h
    refine h.eq ?_
    rw [usedN_on hx hxu]
    rfl
  · rw [t1, List.length_set]
    have h1 := (hu.stored i (.bool true)).1
    have h := own_row_sm h1 ((((((Sm.refl (fun b => b = bg ∨ b = bv ∨ b = s ∨ b = rb) _).setS (Or.inl rfl) i (.int .i64 ((x.g : Int) + 1))).setS (Or.inr (Or.inl rfl)) i (.int .i64 v)).setS (Or.inr (Or.inr (Or.inl rfl))) 4 (.int .i64 ((usedN L : Int) + 1))).setS (Or.inr (Or.inr (Or.inr rfl))) 0 y0).setS (Or.inr (Or.inr (Or.inr rfl))) 1 y1) (fun b e1 e2 => by
      injection e1 with e1
      have e1 : bu = b := e1
      rcases e2 with e2 | e2 | e2 | e2 <;> omega)
    rw [e] at h
    exact h
  · rw [t2, List.length_set]
    have h0 := own_row_sm hg ((Sm.refl (fun b => b = bu) W).set1 i (.bool true)) (fun b e1 e2 => by injection e1 with e1; have e1 : bg = b := e1; omega)
    have h1 := (h0.stored i (.int .i64 ((x.g : Int) + 1))).1
    have h := own_row_sm h1 (((((Sm.refl (fun b => b = bv ∨ b = s ∨ b = rb) _).setS (Or.inl rfl) i (.int .i64 v)).setS (Or.inr (Or.inl rfl)) 4 (.int .i64 ((usedN L : Int) + 1))).setS (Or.inr (Or.inr rfl)) 0 y0).setS (Or.inr (Or.inr rfl)) 1 y1) (fun b e1 e2 => by
      injection e1 with e1
      have e1 : bg = b := e1
      rcases e2 with e2 | e2 | e2 <;> omega)
    rw [e] at h
    exact h
  · rw [t3, List.length_set]
    have h0 := own_row_sm hv (((Sm.refl (fun b => b = bu ∨ b = bg) W).setS (Or.inl rfl) i (.bool true)).setS (Or.inr rfl) i (.int .i64 ((x.g : Int) + 1))) (fun b e1 e2 => by injection e1 with e1; have e1 : bv = b := e1; rcases e2 with e2 | e2 <;> omega)
    have h1 := (h0.stored i (.int .i64 v)).1
    have h := own_row_sm h1 ((((Sm.refl (fun b => b = s ∨ b = rb) _).setS (Or.inl rfl) 4 (.int .i64 ((usedN L : Int) + 1))).setS (Or.inr rfl) 0 y0).setS (Or.inr rfl) 1 y1) (fun b e1 e2 => by
      injection e1 with e1
      have e1 : bv = b := e1
      rcases e2 with e2 | e2 <;> omega)
    rw [e] at h
    exact h
  · intro b e1 e2
    injection e1 with e1
    injection e2 with e2
    exact hap (e1.trans e2.symm)
  · intro b hb'
    rcases hb' with hb' | hb' | hb' <;> (injection hb' with hb'; have hb' := (show _ = b from hb'); subst hb'; assumption)
end Go.Proofs.Ytgmgjkafdkgalaa
