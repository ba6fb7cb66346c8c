/- The document's Slab (usherref2): its rows grown one after the other. -/
import Derived.Test.YtgmgjkafdkgalaaTwP
namespace Go.Proofs.Ytgmgjkafdkgalaa
open Go.RowKit Go.Proofs Go.Maps

/-- The Slab s with rows uv, gv, vv (as long as each is just now), beside the Handle's block rb; all since W0 has been done to blocks of O or new ones. -/
structure PS (W0 w : World) (O : Nat → Prop) (s rb : Nat) (uv gv vv : Value) (nu ng nv un : Nat) (ul gl vl : List Value) : Prop where
  bk : Bk w s 103 #[.int .i64 4096, uv, gv, vv, .int .i64 un]
  hb : Bk w rb 29 #[.int .i64 0, .int .i64 0]
  ne : rb ≠ s
  u : w.ownsRow 0 4 1 uv nu ul
  g : w.ownsRow 0 3 1 gv ng gl
  v : w.ownsRow 0 3 1 vv nv vl
  ap : ∀ b, gv.ownBlock = some b → vv.ownBlock ≠ some b
  os : O s
  fr : ∀ b, uv.ownBlock = some b ∨ gv.ownBlock = some b ∨ vv.ownBlock = some b → O b ∨ W0.heap.size ≤ b
  sm : Sm O W0 w
section
variable {W0 w w2 : World} {O : Nat → Prop} {s rb : Nat} {uv gv vv v' : Value} {nu ng nv un n' : Nat} {ul gl vl l' : List Value}
theorem PS.no (P : PS W0 w O s rb uv gv vv nu ng nv un ul gl vl) (hs : Sm No w w2) : PS W0 w2 O s rb uv gv vv nu ng nv un ul gl vl :=
  ⟨P.bk.no hs, P.hb.no hs, P.ne, own_row_sm P.u hs (fun _ _ h => h), own_row_sm P.g hs (fun _ _ h => h), own_row_sm P.v hs (fun _ _ h => h), P.ap, P.os, P.fr, P.sm.trans hs (fun _ _ h => h.elim)⟩
theorem PS.pushU (P : PS W0 w O s rb uv gv vv nu ng nv un ul gl vl) (h : w2.ownsRow 0 4 1 v' n' l') (hs : Sm (fun b => uv.ownBlock = some b) w w2) (hv : v'.ownBlock = uv.ownBlock ∨ v'.ownBlock = some w.heap.size) :
    PS W0 (w2.setCell ⟨s, 1, none⟩ v') O s rb v' gv vv n' ng nv un l' gl vl := by
  have b2 := P.bk.sm hs (row_not_bk P.u P.bk (by decide))
  have r2 := P.hb.sm hs (row_not_bk P.u P.hb (by decide))
  have g2 := own_row_sm P.g hs (fun b e1 e2 => row_not_row P.g P.u (by decide) e1 e2)
  have v2 := own_row_sm P.v hs (fun b e1 e2 => row_not_row P.v P.u (by decide) e1 e2)
  have s3 := (Sm.refl (fun b => b = s) w2).set1 1 v'
  have fu : ∀ b, v'.ownBlock = some b → O b ∨ W0.heap.size ≤ b := fun b e => by
    rcases hv with h1 | h1
    · exact P.fr b (Or.inl (h1.symm.trans e))
    · right
      rw [h1] at e
      injection e with e
      have := P.sm.size
      omega
  exact ⟨(b2.set 1 v').eq rfl, r2.sm s3 P.ne, P.ne, own_row_sm h s3 (fun b e1 e2 => row_not_bk h b2 (by decide) (by rw [← e2]; exact e1)), own_row_sm g2 s3 (fun b e1 e2 => row_not_bk g2 b2 (by decide) (by rw [← e2]; exact e1)), own_row_sm v2 s3 (fun b e1 e2 => row_not_bk v2 b2 (by decide) (by rw [← e2]; exact e1)), P.ap, P.os,
    fun b e => by
      rcases e with e | e | e
      · exact fu b e
      · exact P.fr b (Or.inr (Or.inl e))
      · exact P.fr b (Or.inr (Or.inr e)),
    (P.sm.trans hs (fun b hb e => (P.fr b (Or.inl e)).elim id (fun h => by omega))).trans s3 (fun b _ e => by rw [e]; exact P.os)⟩
theorem PS.pushG (P : PS W0 w O s rb uv gv vv nu ng nv un ul gl vl) (h : w2.ownsRow 0 3 1 v' n' l') (hs : Sm (fun b => gv.ownBlock = some b) w w2) (hv : v'.ownBlock = gv.ownBlock ∨ v'.ownBlock = some w.heap.size) :
    PS W0 (w2.setCell ⟨s, 2, none⟩ v') O s rb uv v' vv nu n' nv un ul l' vl := by
  have b2 := P.bk.sm hs (row_not_bk P.g P.bk (by decide))
  have r2 := P.hb.sm hs (row_not_bk P.g P.hb (by decide))
  have u2 := own_row_sm P.u hs (fun b e1 e2 => row_not_row P.u P.g (by decide) e1 e2)
  have v2 := own_row_sm P.v hs (fun b e1 e2 => P.ap b e2 e1)
  have s3 := (Sm.refl (fun b => b = s) w2).set1 2 v'
  have fu : ∀ b, v'.ownBlock = some b → O b ∨ W0.heap.size ≤ b := fun b e => by
    rcases hv with h1 | h1
    · exact P.fr b (Or.inr (Or.inl (h1.symm.trans e)))
    · right
      rw [h1] at e
      injection e with e
      have := P.sm.size
      omega
  refine ⟨(b2.set 2 v').eq rfl, r2.sm s3 P.ne, P.ne, own_row_sm u2 s3 (fun b e1 e2 => row_not_bk u2 b2 (by decide) (by rw [← e2]; exact e1)), own_row_sm h s3 (fun b e1 e2 => row_not_bk h b2 (by decide) (by rw [← e2]; exact e1)), own_row_sm v2 s3 (fun b e1 e2 => row_not_bk v2 b2 (by decide) (by rw [← e2]; exact e1)), fun b e1 e2 => ?_, P.os,
    fun b e => by
      rcases e with e | e | e
      · exact P.fr b (Or.inl e)
      · exact fu b e
      · exact P.fr b (Or.inr (Or.inr e)),
    (P.sm.trans hs (fun b hb e => (P.fr b (Or.inr (Or.inl e))).elim id (fun h => by omega))).trans s3 (fun b _ e => by rw [e]; exact P.os)⟩
  rcases hv with h1 | h1
  · exact P.ap b (h1.symm.trans e1) e2
  · rw [h1] at e1
    injection e1 with e1
    have := own_row_lt P.v e2
    omega
theorem PS.pushV (P : PS W0 w O s rb uv gv vv nu ng nv un ul gl vl) (h : w2.ownsRow 0 3 1 v' n' l') (hs : Sm (fun b => vv.ownBlock = some b) w w2) (hv : v'.ownBlock = vv.ownBlock ∨ v'.ownBlock = some w.heap.size) :
    PS W0 (w2.setCell ⟨s, 3, none⟩ v') O s rb uv gv v' nu ng n' un ul gl l' := by
  have b2 := P.bk.sm hs (row_not_bk P.v P.bk (by decide))
  have r2 := P.hb.sm hs (row_not_bk P.v P.hb (by decide))
  have u2 := own_row_sm P.u hs (fun b e1 e2 => row_not_row P.u P.v (by decide) e1 e2)
  have g2 := own_row_sm P.g hs (fun b e1 e2 => P.ap b e1 e2)
  have s3 := (Sm.refl (fun b => b = s) w2).set1 3 v'
  have fu : ∀ b, v'.ownBlock = some b → O b ∨ W0.heap.size ≤ b := fun b e => by
    rcases hv with h1 | h1
    · exact P.fr b (Or.inr (Or.inr (h1.symm.trans e)))
    · right
      rw [h1] at e
      injection e with e
      have := P.sm.size
      omega
  refine ⟨(b2.set 3 v').eq rfl, r2.sm s3 P.ne, P.ne, own_row_sm u2 s3 (fun b e1 e2 => row_not_bk u2 b2 (by decide) (by rw [← e2]; exact e1)), own_row_sm g2 s3 (fun b e1 e2 => row_not_bk g2 b2 (by decide) (by rw [← e2]; exact e1)), own_row_sm h s3 (fun b e1 e2 => row_not_bk h b2 (by decide) (by rw [← e2]; exact e1)), fun b e1 e2 => ?_, P.os,
    fun b e => by
      rcases e with e | e | e
      · exact P.fr b (Or.inl e)
      · exact P.fr b (Or.inr (Or.inl e))
      · exact fu b e,
    (P.sm.trans hs (fun b hb e => (P.fr b (Or.inr (Or.inr e))).elim id (fun h => by omega))).trans s3 (fun b _ e => by rw [e]; exact P.os)⟩
  rcases hv with h1 | h1
  · exact P.ap b e1 (h1.symm.trans e2)
  · rw [h1] at e2
    injection e2 with e2
    have := own_row_lt P.g e1
    omega
end
/-- What the last step's walk wants to know of the grown rows. -/
theorem put_facts {w : World} {s rb bu bg bv cu cg cv cv0 un : Nat} {Av : Option Addr} {l : List Sl}
    (bk : Bk w s 103 #[.int .i64 4096, .slice (some ⟨bu, 0, none⟩) (l.length + 1) cu, .slice (some ⟨bg, 0, none⟩) (l.length + 1) cg, .slice Av l.length cv0, .int .i64 un]) (hb : Bk w rb 29 #[.int .i64 0, .int .i64 0])
    (u : w.ownsRow 0 4 1 (.slice (some ⟨bu, 0, none⟩) (l.length + 1) cu) (l.length + 1) (uL l ++ [.bool false])) (g : w.ownsRow 0 3 1 (.slice (some ⟨bg, 0, none⟩) (l.length + 1) cg) (l.length + 1) (gL l ++ [.int .i64 0])) (v : w.ownsRow 0 3 1 (.slice (some ⟨bv, 0, none⟩) (l.length + 1) cv) (l.length + 1) (vL l ++ [.int .i64 0])) :
    (bu ≠ s ∧ bg ≠ s ∧ bv ≠ s) ∧ (bu ≠ bg ∧ bu ≠ bv) ∧ (rb ≠ bu ∧ rb ≠ bg ∧ rb ≠ bv) ∧ w.cell? ⟨bg, l.length, none⟩ = some (.int .i64 0) ∧ w.cell? ⟨bu, l.length, none⟩ = some (.bool false) ∧ w.cell? ⟨bv, l.length, none⟩ = some (.int .i64 0) ∧ w.frozen? ⟨bu, l.length, none⟩ = false ∧ w.frozen? ⟨bg, l.length, none⟩ = false ∧ w.frozen? ⟨bv, l.length, none⟩ = false := by
  refine ⟨⟨fun e => row_not_bk u bk (by decide) (by rw [← e]; rfl), fun e => row_not_bk g bk (by decide) (by rw [← e]; rfl), fun e => row_not_bk v bk (by decide) (by rw [← e]; rfl)⟩, ⟨fun e => row_not_row u g (by decide) (g := bu) rfl (by rw [e]; rfl), fun e => row_not_row u v (by decide) (g := bu) rfl (by rw [e]; rfl)⟩, ⟨fun e => row_not_bk u hb (by decide) (by rw [e]; rfl), fun e => row_not_bk g hb (by decide) (by rw [e]; rfl), fun e => row_not_bk v hb (by decide) (by rw [e]; rfl)⟩, row_at g ?_, row_at u ?_, row_at v ?_, World.ownsRow.frozenAt u _, World.ownsRow.frozenAt g _, World.ownsRow.frozenAt v _⟩
  · rw [List.getElem?_append_right (by simp [gL])]; simp [gL]
  · rw [List.getElem?_append_right (by simp [uL])]; simp [uL]
  · rw [List.getElem?_append_right (by simp [vL])]; simp [vL]
end Go.Proofs.Ytgmgjkafdkgalaa
