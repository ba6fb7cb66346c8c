/- A slice of the call own grown by a whole other one, nil or not. -/
import Derived.Test.YtgmgjkafdkgalaaOwnMore
import Derived.Laws.AppendOwnNone
import Derived.Laws.AppendOwn
namespace Go.Proofs.Ytgmgjkafdkgalaa
open Go.RowKit Go.Proofs
section
variable {P : Program} {ops : Array Oper} {rest : List Oper} {o : Oper} {a : Act} {w : World} {Q : Exit → Act → World → Prop}
theorem wpList_push_opt (hgd : o.guard = none) (s x : Operand) (st t : TypeId)
    (ho : o.op = .call { callee := .builtin .append, args := #[s, x], argTypes := #[st, st] }) (ht : P.underlying st = some (.slice t))
    (z : Value) (size bytes : Nat) (hi : (P.info? t).map (fun i => (i.zero, i.size, i.bytes)) = some (some z, size, bytes)) (hzs : z.cells.size = size) (hsz : 0 < size) (hby : bytes ≤ 1000)
    (B n : Nat) (v : Value) (xs : List Value) (hs : a.eval s = v) (hown : w.ownsRow B t size v n xs)
    (A : Option Addr) (m c : Nat) (news : List Value) (hx : a.eval x = .slice A m c) (h0 : A = none → m = 0 ∧ c = 0) (hl : news.length = m * size) (hrow : RowC w A news) (h1 : ∀ u ∈ news, u.oneCell' = true) (hn : n + m ≤ 1000001) (hB : B ≤ w.heap.size)
    (h : ∀ v' w', w'.ownsRow B t size v' (n + m) (xs ++ news) → Sm (fun b => v.ownBlock = some b) w w' → (v'.ownBlock = v.ownBlock ∨ v'.ownBlock = some w.heap.size) → wpList P ops Q rest (a.put o.dst v') w') : wpList P ops Q (o :: rest) a w := by
  cases A with
  | some ad => exact wpList_push_row hgd s x st t ho ht z size bytes hi hzs hsz hby B n v xs hs hown ad m c news hx hl hrow h1 hn hB (fun v' w' a1 a2 a3 _ => h v' w' a1 a2 a3)
  | none =>
    obtain ⟨rfl, rfl⟩ := h0 rfl
    have hnn : news = [] := List.eq_nil_of_length_eq_zero (by rw [hl]; simp)
    subst hnn
    obtain ⟨i0, hi0, hz0, hz1, hz2⟩ := info_parts hi
    refine wpList_plain hgd fun K hK => ?_
    have hr := run_append_owned_none (P := P) (w := w) B st o.type t i0 size ht hi0 v n xs hown
    unfold Oper.wp execOp
    simp only [ho, resolve, invoke, builtin, Sem.run_bind, Sem.run_pure, Result.andThen_ok, List.map_toArray, List.map_cons, List.map_nil, hs, hx, hr]
    exact hK _ _ (h v w (by simpa using hown) (Sm.refl _ _) (Or.inl rfl))
end
end Go.Proofs.Ytgmgjkafdkgalaa
