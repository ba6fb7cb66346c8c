/- Maps from handles in memory: ranging over one while other memory is made. -/
import Derived.Test.YtgmgjkafdkgalaaWhM
namespace Go.Proofs.Ytgmgjkafdkgalaa
open Go.RowKit Go.Proofs Go.Maps

/-- Block r is an iterator over the map at block b, which holds l; the keys vs have come. -/
def RangeL (w : World) (b r : Nat) (l : List (Hd × Value)) (vs : List Hd) (cnt : Nat) : Prop :=
  (l.map Prod.fst).Nodup ∧ (∀ p ∈ l, okH p.1) ∧ vs.Nodup ∧ (∀ h ∈ vs, h ∈ l.map Prod.fst) ∧ ∃ (E : List (Lit × DataW Value)) (n : Nat) (left : Lit → Bool), w.ranges Try.prog 29 RV b r n (.map E) left cnt ∧ E.Perm (l.map fun p => (hk p.1, .held p.2)) ∧ ∀ p ∈ l, left (hk p.1) = !decide (p.1 ∈ vs)
theorem ranges_sm {S : Nat → Prop} {w w' : World} {b r n cnt : Nat} {D : DataW Value} {left : Lit → Bool} (h : w.ranges Try.prog 29 RV b r n D left cnt) (hs : Sm S w w') (hb : ¬ S b) (hr : ¬ S r) : w'.ranges Try.prog 29 RV b r n D left cnt := by
  have lb := h.owns.lt
  have lr := h.lt
  obtain ⟨es, clock, since, seen, c0, h1, h2, h3, h4, h5, h6⟩ := h
  exact ⟨es, clock, since, seen, c0, (hs.block b lb hb).trans h1, h2, h3, h4, (hs.block r lr hr).trans h5, h6⟩
theorem RangeL.sm {S : Nat → Prop} {w w' : World} {b r cnt : Nat} {l : List (Hd × Value)} {vs : List Hd} (h : RangeL w b r l vs cnt) (hs : Sm S w w') (hb : ¬ S b) (hr : ¬ S r) : RangeL w' b r l vs cnt := by
  obtain ⟨h1, h2, h3, h4, E, n, left, h5, h6, h7⟩ := h
  exact ⟨h1, h2, h3, h4, E, n, left, ranges_sm h5 hs hb hr, h6, h7⟩
theorem RangeL.no {w w' : World} {b r cnt : Nat} {l : List (Hd × Value)} {vs : List Hd} (h : RangeL w b r l vs cnt) (hs : Sm No w w') : RangeL w' b r l vs cnt := h.sm hs (fun h => h) (fun h => h)
theorem RangeL.lt {w : World} {b r cnt : Nat} {l : List (Hd × Value)} {vs : List Hd} (h : RangeL w b r l vs cnt) : r < w.heap.size ∧ b < w.heap.size ∧ r ≠ b := by
  obtain ⟨_, _, _, _, E, n, left, h5, _, _⟩ := h
  exact ⟨h5.lt, h5.owns.lt, h5.ne⟩
theorem RangeL.left {w : World} {b r cnt : Nat} {l : List (Hd × Value)} {vs : List Hd} (h : RangeL w b r l vs cnt) : w.rangeLeft b r = cnt := by
  obtain ⟨_, _, _, _, E, n, left, h5, _, _⟩ := h
  exact h5.left_eq
theorem has_lits {l : List (Hd × Value)} {E : List (Lit × DataW Value)} (h2 : ∀ p ∈ l, okH p.1) (h4 : E.Perm (l.map fun p => (hk p.1, .held p.2))) {h : Hd} (o : okH h) : has (.map E) (hk h) = decide (h ∈ l.map Prod.fst) := by
  rw [has_eq, Bool.eq_iff_iff]
  simp only [List.any_eq_true, decide_eq_true_eq, List.mem_map]
  constructor
  · rintro ⟨x, hx, hs⟩
    obtain ⟨p, hp, rfl⟩ := List.mem_map.1 (h4.mem_iff.1 hx)
    rw [hk_same (h2 p hp) o] at hs
    exact ⟨p, hp, of_decide_eq_true hs⟩
  · rintro ⟨p, hp, rfl⟩
    exact ⟨_, h4.mem_iff.2 (List.mem_map.2 ⟨p, hp, rfl⟩), WideAt.sameKey_self (hk_key _)⟩
theorem MapL.range {w : World} {b : Nat} {l : List (Hd × Value)} (h : MapL w b l) {t e : TypeId} (ht : Try.prog.underlying t = some (.map 29 e)) :
    ∃ w', (Instr.range t (.map (some b))).run Try.prog w = .ok (.pointer (some ⟨w.heap.size, 0, none⟩)) w' ∧ RangeL w' b w.heap.size l [] l.length ∧ Sm No w w' ∧ w'.heap.size = w.heap.size + 1 := by
  obtain ⟨h1, h2, E, h3, h4⟩ := h
  obtain ⟨w', hrun, hr, hg, hz⟩ := h3.range lawH ht
  refine ⟨w', hrun, ⟨h1, h2, List.nodup_nil, by simp, E, E.length, has (.map E), ?_, h4, fun p hp => ?_⟩, (Sm.refl _ w).grown hg (fun k hk => by cases hk), hz⟩
  · have e : size (.map E) = l.length := by rw [size_eq, h4.length_eq, List.length_map]
    rw [← e]; exact hr
  · rw [has_lits h2 h4 (h2 p hp)]
    simp
    exact ⟨_, hp⟩
set_option maxRecDepth 100000 in
/-- The step. -/
theorem RangeL.next {w : World} {b r cnt : Nat} {l : List (Hd × Value)} {vs : List Hd} (h : RangeL w b r l vs cnt) (ty : TypeId) :
    (cnt = 0 ∧ vs.Perm (l.map Prod.fst) ∧ (Instr.next (.pointer (some ⟨r, 0, none⟩)) false ty).run Try.prog w = .ok (.tuple #[.bool false]) w) ∨
    ∃ k v w' cnt', (k, v) ∈ l ∧ k ∉ vs ∧ (Instr.next (.pointer (some ⟨r, 0, none⟩)) false ty).run Try.prog w = .ok (.tuple #[.bool true, hv k, v]) w' ∧ RangeL w' b r l (vs ++ [k]) cnt' ∧ cnt' < cnt ∧ Sm (fun g => g = r) w w' ∧ w'.heap.size = w.heap.size ∧
      (Instr.entry (.pointer (some ⟨r, 0, none⟩))).run Try.prog w' = .ok (.tuple #[hv k, v]) w' := by
  obtain ⟨h1, h2, h3, h4, E, n, left, h5, h6, h7⟩ := h
  rcases h5.next lawH ty with ⟨hc, hl, hrun⟩ | ⟨key, v, kl, y, w', cnt', hkey, hlk, hv', hat, hrun, hrg, hlt, hgr, hsz, hen⟩
  · refine Or.inl ⟨hc, ?_, hrun⟩
    rw [List.perm_ext_iff_of_nodup h3 h1]
    intro k
    constructor
    · exact h4 k
    · intro hk
      obtain ⟨p, hp, rfl⟩ := List.mem_map.1 hk
      have := h7 p hp
      rw [hl] at this
      simpa using this
  · obtain ⟨k, ok, rfl, rfl⟩ := key_inv hkey
    unfold RV at hv'
    injection hv' with hv'
    subst hv'
    have hhas : has (.map E) (hk k) = true := by
      cases hh : has (.map E) (hk k) with
      | true => rfl
      | false =>
        have h8 := hat .nil
        rw [has_eq, List.any_eq_false] at hh
        have h9 : E.find? (fun p => p.1.sameKey (hk k)) = none := by
          rw [List.find?_eq_none]; exact hh
        simp [DataW.atKey, h9] at h8
    rw [has_lits h2 h6 ok] at hhas
    obtain ⟨p, hp, hpk⟩ := List.mem_map.1 (of_decide_eq_true hhas)
    have hval : p.2 = v := by
      have h8 := hat (.held v)
      have h9 := MapL.atKey h1 h2 h6 ok v
      rw [h9] at h8
      injection h8 with h8
      unfold getV at h8
      cases hf : l.find? (fun q => decide (q.1 = k)) with
      | none =>
        rw [List.find?_eq_none] at hf
        exact absurd hpk (by simpa using hf p hp)
      | some q =>
        rw [hf] at h8
        have hq := List.mem_of_find?_eq_some hf
        have hqk : q.1 = k := by simpa using List.find?_some hf
        have e : p = q := by
          unfold List.Nodup at h1
          rw [List.pairwise_map, List.pairwise_iff_getElem] at h1
          obtain ⟨i, hi, rfl⟩ := List.getElem_of_mem hp
          obtain ⟨j, hj, rfl⟩ := List.getElem_of_mem hq
          rcases Nat.lt_trichotomy i j with g | g | g
          · exact absurd (hpk.trans hqk.symm) (h1 i j hi hj g)
          · subst g; rfl
          · exact absurd (hqk.trans hpk.symm) (h1 j i hj hi g)
        rw [e]; exact h8
    have hpm : (k, v) ∈ l := by
      have e : p = (k, v) := by rw [← hpk, ← hval]
      rw [← e]; exact hp
    have hkv : k ∉ vs := by
      have := h7 p hp
      rw [hpk, hlk] at this
      simpa using this.symm
    refine Or.inr ⟨k, v, w', cnt', hpm, hkv, hrun, ⟨h1, h2, ?_, ?_, E, n, _, hrg, h6, fun q hq => ?_⟩, hlt, (Sm.refl _ w).grown hgr (fun j hj => Or.inl (by injection hj with hj; exact hj.symm)), hsz, hen⟩
    · rw [List.nodup_append]
      exact ⟨h3, by simp, fun a ha b hb e => by rw [List.mem_singleton] at hb; subst hb; subst e; exact hkv ha⟩
    · intro h hh
      rcases List.mem_append.1 hh with hh | hh
      · exact h4 h hh
      · rw [List.mem_singleton] at hh; subst hh; exact List.mem_map.2 ⟨_, hpm, rfl⟩
    · rw [h7 q hq, hk_same (h2 q hq) ok]
      by_cases e : q.1 = k
      · simp [e]
      · simp [e]

section
variable {ops : Array Oper} {rest : List Oper} {o : Oper} {a : Act} {w : World} {Q : Exit → Act → World → Prop}
set_option maxRecDepth 100000 in
theorem wpList_range_L (hgd : o.guard = none) (m : Operand) (t e : TypeId) (hop : o.op = Op.range t m) (ht : Try.prog.underlying t = some (.map 29 e)) (b : Nat) (l : List (Hd × Value)) (hm : a.eval m = .map (some b)) (h : MapL w b l)
    (hK : ∀ w' r, r = w.heap.size → RangeL w' b r l [] l.length → Sm No w w' → wpList Try.prog ops Q rest (a.put o.dst (.pointer (some ⟨r, 0, none⟩))) w') : wpList Try.prog ops Q (o :: rest) a w := by
  refine wpList_plain hgd fun K' hK' => ?_
  obtain ⟨w', hrun, r1, r2, _⟩ := h.range ht
  unfold Oper.wp
  simp [execOp, hop, hm, hrun, Result.andThen]
  exact hK' _ _ (hK w' _ rfl r1 r2)
set_option maxRecDepth 100000 in
theorem wpList_next_L (hgd : o.guard = none) (it : Operand) (hop : o.op = Op.next it false) (b r cnt : Nat) (l : List (Hd × Value)) (vs : List Hd) (hit : a.eval it = .pointer (some ⟨r, 0, none⟩)) (h : RangeL w b r l vs cnt)
    (hDone : cnt = 0 → vs.Perm (l.map Prod.fst) → wpList Try.prog ops Q rest (a.put o.dst (.tuple #[.bool false])) w)
    (hMore : ∀ k v w' cnt', (k, v) ∈ l → k ∉ vs → RangeL w' b r l (vs ++ [k]) cnt' → cnt' < cnt → Sm (fun g => g = r) w w' → (Instr.entry (.pointer (some ⟨r, 0, none⟩))).run Try.prog w' = .ok (.tuple #[hv k, v]) w' → wpList Try.prog ops Q rest (a.put o.dst (.tuple #[.bool true, hv k, v])) w') :
    wpList Try.prog ops Q (o :: rest) a w := by
  refine wpList_plain hgd fun K' hK' => ?_
  unfold Oper.wp
  rcases h.next o.type with ⟨h0, hp, hrun⟩ | ⟨k, v, w', cnt', g1, g2, hrun, g3, g4, g5, _, g6⟩
  · simp [execOp, hop, hit, hrun, Result.andThen]
    exact hK' _ _ (hDone h0 hp)
  · simp [execOp, hop, hit, hrun, Result.andThen]
    exact hK' _ _ (hMore k v w' cnt' g1 g2 g3 g4 g5 g6)
end
end Go.Proofs.Ytgmgjkafdkgalaa
