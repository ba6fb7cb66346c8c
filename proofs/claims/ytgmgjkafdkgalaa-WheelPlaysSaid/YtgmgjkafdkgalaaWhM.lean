/- Maps from handles in memory. -/
import Derived.Test.YtgmgjkafdkgalaaProg
import Derived.Test.YtgmgjkafdkgalaaWhC
import Derived.Test.YtgmgjkafdkgalaaOwnStep
import Derived.DeepKeys4
import Derived.Maps.OwnSet
import Derived.Maps.RangeWalk
namespace Go.Proofs.Ytgmgjkafdkgalaa
open Go.RowKit Go.Proofs Go.Maps

def okH (h : Hd) : Prop := (Lit.int .i64 h.slot).wf = true ∧ (Lit.int .i64 h.gen).wf = true
def hv (h : Hd) : Value := .agg #[.int .i64 h.slot, .int .i64 h.gen]
def hk (h : Hd) : Lit := .string (keyBytes [.int .i64 h.slot, .int .i64 h.gen])
theorem hv_inj {a b : Hd} (h : hv a = hv b) : a = b := by
  cases a; cases b; simp [hv] at h; simp [h]
theorem laidOut6 : laidOutB Try.prog = true := by kernel_rfl
theorem lawH : Keyed Try.prog 29 := Keyed.of_law (deep_law_laid laidOut6 (m := 2) (by omega) (of_decide_eq_true (by kernel_rfl)) (by kernel_rfl) (by kernel_rfl))
theorem types_pos : ∃ m, Try.prog.types.size = m + 1 := by
  refine ⟨Try.prog.types.size - 1, ?_⟩
  have h : (0 < Try.prog.types.size) := by
    have : decide (0 < Try.prog.types.size) = true := by kernel_rfl
    exact of_decide_eq_true this
  omega
theorem cellsH : Try.prog.cellsOf 29 = 2 := by kernel_rfl
theorem cellsI : Try.prog.cellsOf 3 = 1 := by kernel_rfl
theorem lits_h {m : Nat} {h : Hd} (o : okH h) : Try.prog.keyLits (m + 1 + 1) 29 [.int .i64 h.slot, .int .i64 h.gen] = some [.int .i64 h.slot, .int .i64 h.gen] := by
  obtain ⟨o1, o2⟩ := o
  unfold Program.keyLits
  simp only [Try.underlying29]
  rw [if_pos ⟨by rw [cellsH]; rfl, by kernel_rfl⟩]
  simp [cellsI, Program.keyLits, Try.underlying3, o1, o2]
theorem types_two : ∃ m, Try.prog.types.size + 1 = m + 1 + 1 := by
  obtain ⟨m, h⟩ := types_pos
  exact ⟨m, by omega⟩
theorem key_hk {h : Hd} (o : okH h) : keyOf Try.prog 29 (hv h) = some (hk h) := by
  obtain ⟨m, hm⟩ := types_two
  have hkt : Try.prog.keyType 29 = true := by kernel_rfl
  have hf : (hv h).formed Try.prog 29 = true := by kernel_rfl
  unfold keyOf
  simp only [Try.underlying29, hkt, hf, hm, Bool.and_self, if_true]
  show ((Try.prog.keyLits (m + 1 + 1) 29 [.int .i64 h.slot, .int .i64 h.gen]).map fun ls => Lit.string (keyBytes ls)) = _
  rw [lits_h o]
  rfl
theorem lit_i {m : Nat} {x : Value} {l : List Lit} (h : Try.prog.keyLits (m + 1) 3 [x] = some l) : ∃ a, x = .int .i64 a ∧ (Lit.int .i64 a).wf = true ∧ l = [.int .i64 a] := by
  unfold Program.keyLits at h
  simp only [Try.underlying3] at h
  cases x <;> simp at h
  obtain ⟨⟨rfl, hw⟩, rfl⟩ := h
  exact ⟨_, rfl, hw, rfl⟩
theorem key_inv {v : Value} {kl : Lit} (h : keyOf Try.prog 29 v = some kl) : ∃ k, okH k ∧ v = hv k ∧ kl = hk k := by
  obtain ⟨xs, L, rfl, hl, rfl⟩ := keyOf_top (by kernel_rfl) h
  obtain ⟨m, hm⟩ := types_two
  rw [hm] at hl
  unfold Program.keyLits at hl
  simp only [Try.underlying29] at hl
  split at hl
  · rename_i hc
    have hlen := hc.1
    rw [cellsH] at hlen
    obtain ⟨l⟩ := xs
    simp only at hlen hl
    rcases l with _ | ⟨x, _ | ⟨y, _ | ⟨z, r⟩⟩⟩
    · simp at hlen
    · simp at hlen
    · simp [cellsI] at hl
      cases hx : Try.prog.keyLits (m + 1) 3 [x] with
      | none => rw [hx] at hl; cases hl
      | some lx =>
        cases hy : Try.prog.keyLits (m + 1) 3 [y] with
        | none => rw [hx, hy] at hl; cases hl
        | some ly =>
          rw [hx, hy] at hl
          obtain ⟨a, rfl, ha, rfl⟩ := lit_i hx
          obtain ⟨b, rfl, hb, rfl⟩ := lit_i hy
          simp at hl
          subst hl
          exact ⟨⟨a, b⟩, ⟨ha, hb⟩, rfl, rfl⟩
    · simp at hlen
  · cases hl
theorem hk_inj {a b : Hd} (ha : okH a) (hb : okH b) (e : hk a = hk b) : a = b := hv_inj (lawH.inj (key_hk ha) (e ▸ key_hk hb))
theorem hk_key (h : Hd) : WideAt.IsKeyLit (hk h) := trivial
theorem hk_same {a b : Hd} (ha : okH a) (hb : okH b) : (hk a).sameKey (hk b) = decide (a = b) := by
  by_cases e : a = b
  · subst e; rw [WideAt.sameKey_self (hk_key a)]; simp
  · rw [sameKey_ne (fun h => e (hk_inj ha hb h))]; simp [e]

/-- An entry of a map as it is. -/
def RV (v : Value) : Option (DataW Value × List MemPlace) := some (.held v, [])
/-- Block b is a map from handles; l says what it holds. -/
def MapL (w : World) (b : Nat) (l : List (Hd × Value)) : Prop :=
  (l.map Prod.fst).Nodup ∧ (∀ p ∈ l, okH p.1) ∧ ∃ E : List (Lit × DataW Value), w.ownsMap Try.prog 29 RV b E.length (.map E) ∧ E.Perm (l.map fun p => (hk p.1, .held p.2))
theorem MapL.ok {w : World} {b : Nat} {l : List (Hd × Value)} (h : MapL w b l) {k : Hd} (hk : k ∈ l.map Prod.fst) : okH k := by
  obtain ⟨p, hp, rfl⟩ := List.mem_map.1 hk
  exact h.2.1 p hp
theorem MapL.made (w : World) : MapL (w.alloc (.map #[] 0)) w.heap.size [] := ⟨List.nodup_nil, by simp, [], World.ownsMap_made w _ _ _, List.Perm.refl _⟩
theorem MapL.sm {S : Nat → Prop} {w w' : World} {b : Nat} {l : List (Hd × Value)} (h : MapL w b l) (hs : Sm S w w') (hb : ¬ S b) : MapL w' b l := by
  obtain ⟨h1, h2, E, h3, h4⟩ := h
  exact ⟨h1, h2, E, own_sm h3 hs hb, h4⟩
theorem MapL.lt {w : World} {b : Nat} {l : List (Hd × Value)} (h : MapL w b l) : b < w.heap.size := by
  obtain ⟨_, _, E, h3, _⟩ := h
  exact h3.lt
theorem MapL.perm {w : World} {b : Nat} {l l' : List (Hd × Value)} (h : MapL w b l) (p : l.Perm l') : MapL w b l' := by
  obtain ⟨h1, h2, E, h3, h4⟩ := h
  exact ⟨(p.map Prod.fst).nodup_iff.1 h1, fun x hx => h2 x (p.mem_iff.2 hx), E, h3, h4.trans (p.map _)⟩
theorem find_perm {E E' : List (Lit × DataW Value)} {k : Lit} (p : E.Perm E') (hd : E'.Pairwise fun x y => x.1 ≠ y.1) : E.find? (fun x => x.1.sameKey k) = E'.find? (fun x => x.1.sameKey k) := by
  have key : ∀ {E E' : List (Lit × DataW Value)}, E.Perm E' → (E'.Pairwise fun x y => x.1 ≠ y.1) → ∀ x, E.find? (fun x => x.1.sameKey k) = some x → E'.find? (fun x => x.1.sameKey k) = some x := by
    intro E E' p hd x hx
    have hm := p.mem_iff.1 (List.mem_of_find?_eq_some hx)
    have hs := List.find?_some hx
    cases hf : E'.find? (fun x => x.1.sameKey k) with
    | none =>
      rw [List.find?_eq_none] at hf
      exact absurd hs (hf x hm)
    | some y =>
      have hy := List.mem_of_find?_eq_some hf
      have hs2 := List.find?_some hf
      have e : x.1 = y.1 := (WideAt.sameKey_eq hs).trans (WideAt.sameKey_eq hs2).symm
      congr 1
      rw [List.pairwise_iff_getElem] at hd
      obtain ⟨i, hi, rfl⟩ := List.getElem_of_mem hm
      obtain ⟨j, hj, rfl⟩ := List.getElem_of_mem hy
      rcases Nat.lt_trichotomy i j with h | h | h
      · exact absurd e (hd i j hi hj h)
      · subst h; rfl
      · exact absurd e.symm (hd j i hj hi h)
  have hd' : E.Pairwise fun x y => x.1 ≠ y.1 := (p.symm.pairwise_iff (fun {_ _} h => Ne.symm h)).1 hd
  cases h1 : E.find? (fun x => x.1.sameKey k) with
  | some x => exact (key p hd x h1).symm
  | none =>
    cases h2 : E'.find? (fun x => x.1.sameKey k) with
    | none => rfl
    | some y => rw [key p.symm hd' y h2] at h1; cases h1
theorem lits_apart {l : List (Hd × Value)} (h1 : (l.map Prod.fst).Nodup) (h2 : ∀ p ∈ l, okH p.1) : (l.map fun p => (hk p.1, DataW.held (H := Value) p.2)).Pairwise fun x y => x.1 ≠ y.1 := by
  rw [List.pairwise_map]
  unfold List.Nodup at h1
  rw [List.pairwise_map] at h1
  exact h1.imp_of_mem fun {a b} ha hb h e => h (hk_inj (h2 a ha) (h2 b hb) e)
def getV (l : List (Hd × Value)) (h : Hd) (d : Value) : Value := match l.find? (fun p => decide (p.1 = h)) with
  | some p => p.2
  | none => d
theorem find_lits {l : List (Hd × Value)} (h2 : ∀ p ∈ l, okH p.1) {h : Hd} (o : okH h) : (l.map fun p => (hk p.1, DataW.held (H := Value) p.2)).find? (fun x => x.1.sameKey (hk h)) = (l.find? (fun p => decide (p.1 = h))).map fun p => (hk p.1, DataW.held p.2) := by
  induction l with
  | nil => rfl
  | cons p r ih =>
    rw [List.map_cons, List.find?_cons, List.find?_cons]
    simp only [hk_same (h2 p (by simp)) o]
    by_cases e : p.1 = h
    · simp [e]
    · simp only [e, decide_false]
      exact ih (fun q hq => h2 q (by simp [hq]))
theorem MapL.atKey {l : List (Hd × Value)} {E : List (Lit × DataW Value)} (h1 : (l.map Prod.fst).Nodup) (h2 : ∀ p ∈ l, okH p.1) (h4 : E.Perm (l.map fun p => (hk p.1, .held p.2))) {h : Hd} (o : okH h) (d : Value) :
    (DataW.map E).atKey (hk h) (.held d) = .held (getV l h d) := by
  unfold DataW.atKey getV
  simp only
  rw [find_perm h4 (lits_apart h1 h2), find_lits h2 o]
  cases l.find? (fun p => decide (p.1 = h)) <;> rfl
set_option maxRecDepth 100000 in
theorem MapL.look {w : World} {b : Nat} {l : List (Hd × Value)} (h : MapL w b l) {t e : TypeId} (ht : Try.prog.underlying t = some (.map 29 e)) {z : Value} (hz : (zeroValue e).run Try.prog w = .ok z w) {k : Hd} (o : okH k) :
    (Instr.lookup t (.map (some b)) (hv k) false).run Try.prog w = .ok (getV l k z) w := by
  obtain ⟨h1, h2, E, h3, h4⟩ := h
  obtain ⟨v, ps, hrun, hv⟩ := h3.lookup lawH ht hz (zd := .held z) (zp := []) rfl (key_hk o)
  rw [MapL.atKey h1 h2 h4 o] at hv
  unfold RV at hv
  injection hv with hv
  have e := (Prod.mk.inj hv).1
  injection e with e
  subst e
  exact hrun
set_option maxRecDepth 100000 in
theorem MapL.len {w : World} {b : Nat} {l : List (Hd × Value)} (h : MapL w b l) {t e : TypeId} (ht : Try.prog.underlying t = some (.map 29 e)) (ty : TypeId) : (Builtin.len_ #[t] ty #[.map (some b)]).run Try.prog w = .ok (.int .i64 l.length) w := by
  obtain ⟨h1, h2, E, h3, h4⟩ := h
  rw [h3.len ht]
  show _ = _
  rw [size_eq, h4.length_eq, List.length_map]
def putL (l : List (Hd × Value)) (k : Hd) (v : Value) : List (Hd × Value) := (k, v) :: l.filter fun p => !decide (p.1 = k)
def delL (l : List (Hd × Value)) (k : Hd) : List (Hd × Value) := l.filter fun p => !decide (p.1 = k)
theorem filter_lits {l : List (Hd × Value)} (h2 : ∀ p ∈ l, okH p.1) {h : Hd} (o : okH h) : (l.map fun p => (hk p.1, DataW.held (H := Value) p.2)).filter (fun x => !x.1.sameKey (hk h)) = (delL l h).map fun p => (hk p.1, DataW.held p.2) := by
  unfold delL
  rw [List.filter_map]
  congr 1
  apply List.filter_congr
  intro p hp
  simp only [Function.comp]
  rw [hk_same (h2 p hp) o]
theorem delL_nodup {l : List (Hd × Value)} (h1 : (l.map Prod.fst).Nodup) (k : Hd) : ((delL l k).map Prod.fst).Nodup := (List.filter_sublist.map Prod.fst).nodup h1
theorem putL_nodup {l : List (Hd × Value)} (h1 : (l.map Prod.fst).Nodup) (k : Hd) (v : Value) : ((putL l k v).map Prod.fst).Nodup := by
  unfold putL
  rw [List.map_cons, List.nodup_cons]
  refine ⟨fun h => ?_, delL_nodup h1 k⟩
  obtain ⟨p, hp, e⟩ := List.mem_map.1 h
  have := (List.mem_filter.1 hp).2
  simp at this
  exact this e
set_option maxRecDepth 100000 in
theorem MapL.put {w : World} {b : Nat} {l : List (Hd × Value)} (h : MapL w b l) {t e : TypeId} (ht : Try.prog.underlying t = some (.map 29 e)) {k : Hd} (o : okH k) (v : Value) (hl : l.length ≤ 1000000) :
    ∃ w', (Instr.mapUpdate t (.map (some b)) (hv k) v).run Try.prog w = .ok () w' ∧ MapL w' b (putL l k v) ∧ Sm (fun g => g = b) w w' := by
  obtain ⟨h1, h2, E, h3, h4⟩ := h
  have hE : E.length ≤ 1000000 := by rw [h4.length_eq, List.length_map]; exact hl
  obtain ⟨w', hrun, ho, hg⟩ := h3.update lawH ht (by unfold maxLen; omega) (val := v) (d := .held v) (ps := []) (key_hk o) rfl
  refine ⟨w', hrun, ⟨putL_nodup h1 k v, fun p hp => ?_, (ChangeMaps.putKey (hk k) (.held v) E), ?_, ?_⟩, (Sm.refl _ w).grown hg (fun j hj => Or.inl (by injection hj with hj; exact hj.symm))⟩
  · rcases List.mem_cons.1 hp with rfl | hp
    · exact o
    · exact h2 p (List.mem_filter.1 hp).1
  · obtain ⟨es, clock, g1, g2, g3, g4⟩ := ho
    refine ⟨es, clock, g1, g2, ?_, g4⟩
    injection g4 with g4
    rw [show ChangeMaps.putKey (hk k) (DataW.held v) E = (es.toList.map (WideElems.rg Try.prog 29 RV)).foldr DataW.insert [] from g4, length_sorted]
    simp
  · have p1 : (ChangeMaps.putKey (hk k) (DataW.held v) E).Perm ((hk k, .held v) :: E.filter (ChangeMaps.notKey (hk k))) := WideShapes.insert_perm _ _
    refine p1.trans ?_
    unfold putL
    rw [List.map_cons]
    refine List.Perm.cons _ ?_
    have p2 := h4.filter (ChangeMaps.notKey (H := Value) (hk k))
    have e := filter_lits h2 o
    unfold ChangeMaps.notKey at p2 ⊢
    rw [e] at p2
    exact p2
set_option maxRecDepth 100000 in
theorem MapL.drop {w : World} {b : Nat} {l : List (Hd × Value)} (h : MapL w b l) {t e : TypeId} (ht : Try.prog.underlying t = some (.map 29 e)) {k : Hd} (o : okH k) (ty : TypeId) :
    ∃ w', (Builtin.delete_ #[t, 29] ty #[.map (some b), hv k]).run Try.prog w = .ok (.tuple #[]) w' ∧ MapL w' b (delL l k) ∧ Sm (fun g => g = b) w w' := by
  obtain ⟨h1, h2, E, h3, h4⟩ := h
  obtain ⟨w', hrun, ho, hg⟩ := h3.drop lawH ht (key_hk o) ty
  refine ⟨w', hrun, ⟨delL_nodup h1 k, fun p hp => h2 p (List.mem_filter.1 hp).1, (ChangeMaps.delKey (hk k) E), ?_, ?_⟩, (Sm.refl _ w).grown hg.grown (fun j hj => Or.inl (by injection hj with hj; exact hj.symm))⟩
  · obtain ⟨es, clock, g1, g2, g3, g4⟩ := ho
    refine ⟨es, clock, g1, g2, ?_, g4⟩
    injection g4 with g4
    rw [show ChangeMaps.delKey (hk k) E = (es.toList.map (WideElems.rg Try.prog 29 RV)).foldr DataW.insert [] from g4, length_sorted]
    simp
  · have p2 := h4.filter (ChangeMaps.notKey (H := Value) (hk k))
    have e := filter_lits h2 o
    unfold ChangeMaps.notKey at p2
    rw [e] at p2
    exact p2
end Go.Proofs.Ytgmgjkafdkgalaa
