/- At a step of a region that draws its order: a slice of the call's own grown by a whole other one, nil or not. -/
import Derived.Test.YtgmgjkafdkgalaaOwnAny
namespace Go.Proofs.Ytgmgjkafdkgalaa
open Go.RowKit Go.Proofs
section
variable {P : Program} {ops : Array Oper} {o : Oper} {a : Act} {w : World} {Q : Exit → Act → World → Prop}
theorem step_push_opt {E : Prop} {K : Act → World → Prop} (hgd : o.guard = none) (s x : Operand) (st t : TypeId)
    (ho : o.op = .call { callee := .builtin .append, args := #[s, x], argTypes := #[st, st] }) (ht : P.underlying st = some (.slice t))
    (z : Value) (size bytes : Nat) (hi : (P.info? t).map (fun i => (i.zero, i.size, i.bytes)) = some (some z, size, bytes)) (hzs : z.cells.size = size) (hsz : 0 < size) (hby : bytes ≤ 1000)
    (B n : Nat) (v : Value) (xs : List Value) (hs : a.eval s = v) (hown : w.ownsRow B t size v n xs)
    (A : Option Addr) (m c : Nat) (news : List Value) (hx : a.eval x = .slice A m c) (h0 : A = none → m = 0 ∧ c = 0) (hl : news.length = m * size) (hrow : RowC w A news) (h1 : ∀ u ∈ news, u.oneCell' = true) (hn : n + m ≤ 1000001) (hB : B ≤ w.heap.size)
    (h : ∀ A' c' w', w'.ownsRow B t size (.slice A' (n + m) c') (n + m) (xs ++ news) → Sm (fun b => v.ownBlock = some b) w w' → ((Value.slice A' (n + m) c').ownBlock = v.ownBlock ∨ (Value.slice A' (n + m) c').ownBlock = some w.heap.size) → K (a.put o.dst (.slice A' (n + m) c')) w') :
    if Region.wanted o (yielded ops a.tmps) = true then Oper.wp P o a w K Q else E := by
  have hw : Region.wanted o (yielded ops a.tmps) = true := by simp [Region.wanted, hgd]
  rw [if_pos hw]
  obtain ⟨i0, hi0, hz0, hz1, hz2⟩ := info_parts hi
  have hr : ∃ v' w', (Builtin.append_ #[st, st] o.type #[v, .slice A m c]).run P w = .ok v' w' ∧ w'.ownsRow B t size v' (n + m) (xs ++ news) ∧ Sm (fun b => v.ownBlock = some b) w w' ∧ (v'.ownBlock = v.ownBlock ∨ v'.ownBlock = some w.heap.size) := by
    cases A with
    | some ad =>
      obtain ⟨v', w', h2, h3, h4, _, h6⟩ := run_append_own_at (P := P) w B st o.type t i0 z size bytes ht hi0 hz0 hz1 hz2 hzs hsz v n xs hown ad m c news hl (hrow.news rfl) h1 (by unfold maxLen; omega)
        (by have : (n + m) * bytes ≤ 1000001 * 1000 := Nat.mul_le_mul (by omega) hby
            omega) hB
      exact ⟨v', w', h2, h3, (Sm.refl _ w).grown h4 (fun k hk => Or.inl hk), h6⟩
    | none =>
      obtain ⟨rfl, rfl⟩ := h0 rfl
      have hnn : news = [] := List.eq_nil_of_length_eq_zero (by rw [hl]; simp)
      subst hnn
      exact ⟨v, w, run_append_owned_none (P := P) (w := w) B st o.type t i0 size ht hi0 v n xs hown, by simpa using hown, Sm.refl _ _, Or.inl rfl⟩
  obtain ⟨v', w', h2, h3, h4, h6⟩ := hr
  obtain ⟨A', c', rfl, _, _, _⟩ := own_rowC h3
  unfold Oper.wp execOp
  simp only [ho, resolve, invoke, builtin, Sem.run_bind, Sem.run_pure, Result.andThen_ok, List.map_toArray, List.map_cons, List.map_nil, hs, hx, h2]
  exact h A' c' w' h3 h4 h6
theorem step_push_opt0 {E : Prop} {K : Act → World → Prop} (hgd : o.guard = none) (s x : Operand) (st t : TypeId)
    (ho : o.op = .call { callee := .builtin .append, args := #[s, x], argTypes := #[st, st] }) (ht : P.underlying st = some (.slice t))
    (z : Value) (size bytes : Nat) (hi : (P.info? t).map (fun i => (i.zero, i.size, i.bytes)) = some (some z, size, bytes)) (hzs : z.cells.size = size) (hsz : 0 < size) (hby : bytes ≤ 1000)
    (B : Nat) (v : Value) (hs : a.eval s = v) (hown : w.ownsRow B t size v 0 [])
    (A : Option Addr) (m c : Nat) (news : List Value) (hx : a.eval x = .slice A m c) (h0 : A = none → m = 0 ∧ c = 0) (hl : news.length = m * size) (hrow : RowC w A news) (h1 : ∀ u ∈ news, u.oneCell' = true) (hn : m ≤ 1000001) (hB : B ≤ w.heap.size)
    (h : ∀ A' c' w', w'.ownsRow B t size (.slice A' m c') m news → Sm (fun b => v.ownBlock = some b) w w' → ((Value.slice A' m c').ownBlock = v.ownBlock ∨ (Value.slice A' m c').ownBlock = some w.heap.size) → K (a.put o.dst (.slice A' m c')) w') :
    if Region.wanted o (yielded ops a.tmps) = true then Oper.wp P o a w K Q else E :=
  step_push_opt hgd s x st t ho ht z size bytes hi hzs hsz hby B 0 v [] hs hown A m c news hx h0 hl hrow h1 (by omega) hB (fun A' c' w' g1 g2 g3 => by
    rw [Nat.zero_add] at g1 g3 ⊢
    exact h A' c' w' (by simpa using g1) g2 g3)
end
end Go.Proofs.Ytgmgjkafdkgalaa
