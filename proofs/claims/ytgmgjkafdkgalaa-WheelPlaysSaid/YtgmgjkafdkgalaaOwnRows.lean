/- Words and laws for a slice that the call itself grows: kept over other writing, grown by one element. -/
import Derived.Test.YtgmgjkafdkgalaaLaws
import Derived.OwnWalk
import Derived.Maps.AppendAt
import Derived.Deep.AppendLies
namespace Go.Proofs.Ytgmgjkafdkgalaa
open Go.RowKit Go.Proofs

section
variable {S : Nat → Prop} {w w' : World} {B size n : Nat} {t : TypeId} {v : Value} {xs : List Value}
theorem own_row_sm (h : w.ownsRow B t size v n xs) (hs : Sm S w w') (hS : ∀ b, v.ownBlock = some b → ¬ S b) : w'.ownsRow B t size v n xs := by
  obtain ⟨h1, h2⟩ := h
  refine ⟨h1, ?_⟩
  rcases h2 with h2 | ⟨g, cap, cur, hv, hg, hh, r⟩
  · exact Or.inl h2
  · refine Or.inr ⟨g, cap, cur, hv, hg, ?_, r⟩
    rw [hs.block g (Array.getElem?_eq_some_iff.1 hh).1 (hS g (by rw [hv]; rfl))]
    exact hh
theorem own_row_base {C : Nat} (h : w.ownsRow B t size v n xs) (hC : ∀ b, v.ownBlock = some b → C ≤ b) : w.ownsRow C t size v n xs := by
  obtain ⟨h1, h2⟩ := h
  refine ⟨h1, ?_⟩
  rcases h2 with h2 | ⟨g, cap, cur, hv, hg, hh, r⟩
  · exact Or.inl h2
  · exact Or.inr ⟨g, cap, cur, hv, hC g (by rw [hv]; rfl), hh, r⟩
/-- Either nothing is held, or the slice lies at the head of a block of its own. -/
theorem own_row_form (h : w.ownsRow B t size v n xs) : (v = .slice none 0 0 ∧ n = 0 ∧ xs = []) ∨ ∃ g cap, v = .slice (some ⟨g, 0, none⟩) n cap ∧ v.ownBlock = some g ∧ B ≤ g ∧ g < w.heap.size ∧ n ≤ cap ∧ (∀ j u, xs[j]? = some u → w.cell? ⟨g, j, none⟩ = some u) ∧ ∀ j, w.frozen? ⟨g, j, none⟩ = false := by
  have h0 := h
  rcases h.2 with ⟨h1, h2⟩ | ⟨g, cap, cur, hv, hg, hh, hcap, hm, hcs, hcell⟩
  · refine Or.inl ⟨h1, h2, ?_⟩
    have := h.1
    rw [h2, Nat.zero_mul] at this
    exact List.eq_nil_of_length_eq_zero this
  · subst hv
    refine Or.inr ⟨g, cap, rfl, rfl, hg, (Array.getElem?_eq_some_iff.1 hh).1, hcap, fun j u hj => ?_, fun j => World.ownsRow.frozenAt h0 j⟩
    have hx := World.ownsRow.cells h0 (g := g) rfl j u hj
    have hadd : (⟨g, 0, none⟩ : Addr).add j = ⟨g, j, none⟩ := by unfold Addr.add; split <;> simp_all
    rwa [hadd] at hx
end

section
variable {P : Program} {ops : Array Oper} {rest : List Oper} {o : Oper} {a : Act} {w : World} {Q : Exit → Act → World → Prop}

theorem wpList_push (hgd : o.guard = none) (s x : Operand) (st t : TypeId)
    (ho : o.op = .call { callee := .builtin .append, args := #[s, x], argTypes := #[st, st] }) (ht : P.underlying st = some (.slice t))
    (z : Value) (size bytes : Nat) (hi : (P.info? t).map (fun i => (i.zero, i.size, i.bytes)) = some (some z, size, bytes)) (hzs : z.cells.size = size) (hsz : 0 < size) (hby : bytes ≤ 1000)
    (B n : Nat) (v : Value) (xs : List Value) (hs : a.eval s = v) (hown : w.ownsRow B t size v n xs)
    (g : Nat) (cs : Array Value) (hx : a.eval x = .slice (some ⟨g, 0, none⟩) 1 1) {tt : TypeId} (hb : Bk w g tt cs) (hcs : cs.size = size) (h1 : ∀ u ∈ cs.toList, u.oneCell' = true) (hn : n ≤ 1000000) (hB : B ≤ w.heap.size)
    (h : ∀ v' w', w'.ownsRow B t size v' (n + 1) (xs ++ cs.toList) → Sm (fun b => v.ownBlock = some b) w w' → (v'.ownBlock = v.ownBlock ∨ v'.ownBlock = some w.heap.size) → wpList P ops Q rest (a.put o.dst v') w') : wpList P ops Q (o :: rest) a w := by
  obtain ⟨i0, hi0, hz0, hz1, hz2⟩ := info_parts hi
  refine wpList_append_own_at _ hgd s x st ho B t i0 z size bytes ht hi0 hz0 hz1 hz2 hzs hsz v n xs hs hown ⟨g, 0, none⟩ 1 1 cs.toList hx (by simp [hcs]) (fun j u hj => ?_) h1 (by unfold maxLen; omega) ?_ hB ?_
  · have hadd : (⟨g, 0, none⟩ : Addr).add j = ⟨g, j, none⟩ := by unfold Addr.add; split <;> simp_all
    rw [hadd]
    exact hb.at j (by simpa using hj)
  · have : (n + 1) * bytes ≤ 1000001 * 1000 := Nat.mul_le_mul (by omega) hby
    omega
  · intro v' w' h2 h3 _ h5
    exact h v' w' h2 ((Sm.refl _ w).grown h3 (fun k hk => Or.inl hk)) h5

theorem step_push {E : Prop} {K : Act → World → Prop} (hgd : o.guard = none) (s x : Operand) (st t : TypeId)
    (ho : o.op = .call { callee := .builtin .append, args := #[s, x], argTypes := #[st, st] }) (ht : P.underlying st = some (.slice t))
    (z : Value) (size bytes : Nat) (hi : (P.info? t).map (fun i => (i.zero, i.size, i.bytes)) = some (some z, size, bytes)) (hzs : z.cells.size = size) (hsz : 0 < size) (hby : bytes ≤ 1000)
    (B n : Nat) (v : Value) (xs : List Value) (hs : a.eval s = v) (hown : w.ownsRow B t size v n xs)
    (g : Nat) (cs : Array Value) (hx : a.eval x = .slice (some ⟨g, 0, none⟩) 1 1) {tt : TypeId} (hb : Bk w g tt cs) (hcs : cs.size = size) (h1 : ∀ u ∈ cs.toList, u.oneCell' = true) (hn : n ≤ 1000000) (hB : B ≤ w.heap.size)
    (h : ∀ r cap w', w'.ownsRow B t size (.slice (some ⟨r, 0, none⟩) (n + 1) cap) (n + 1) (xs ++ cs.toList) → Sm (fun b => v.ownBlock = some b) w w' → (v.ownBlock = some r ∨ r = w.heap.size) → K (a.put o.dst (.slice (some ⟨r, 0, none⟩) (n + 1) cap)) w') :
    if Region.wanted o (yielded ops a.tmps) = true then Oper.wp P o a w K Q else E := by
  obtain ⟨i0, hi0, hz0, hz1, hz2⟩ := info_parts hi
  refine step_append_lies _ hgd s x st ho B t i0 z size bytes ht hi0 hz0 hz1 hz2 hzs hsz v n xs hs hown ⟨g, 0, none⟩ 1 1 cs.toList hx (by simp [hcs]) (fun j u hj => ?_) h1 (by decide) (by unfold maxLen; omega) ?_ hB w.heap.size rfl ?_
  · have hadd : (⟨g, 0, none⟩ : Addr).add j = ⟨g, j, none⟩ := by unfold Addr.add; split <;> simp_all
    rw [hadd]
    exact hb.at j (by simpa using hj)
  · have : (n + 1) * bytes ≤ 1000001 * 1000 := Nat.mul_le_mul (by omega) hby
    omega
  · intro r cap w' h2 h3 h5 _
    exact h r cap w' h2 ((Sm.refl _ w).grown h3 (fun k hk => Or.inl hk)) h5
end
end Go.Proofs.Ytgmgjkafdkgalaa
