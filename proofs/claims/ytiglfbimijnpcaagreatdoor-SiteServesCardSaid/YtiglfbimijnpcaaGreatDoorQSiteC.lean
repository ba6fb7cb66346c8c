/- Entries in memory; a Site; its New. -/
import Derived.Test.YtiglfbimijnpcaaGreatDoorQSiteB
import Derived.Test.YtiglfbimijnpcaaGreatDoorQRoutH
namespace Go.Proofs.YtiglfbimijnpcaaGreatDoor
open Go.RowKit Go.Proofs

def entCells (T : List Ent) : List Value := T.flatMap fun x => [.string x.path, .string x.type, .string x.data]
theorem entCells_len (l : List Ent) : (entCells l).length = l.length * 3 := by
  induction l with
  | nil => rfl
  | cons x l ih => simp only [entCells, List.flatMap_cons, List.length_append, List.length_cons, List.length_nil] at ih ⊢; omega
theorem entCells_at {l : List Ent} {k : Nat} {x : Ent} (h : l[k]? = some x) : (entCells l)[k * 3]? = some (.string x.path) ∧ (entCells l)[k * 3 + 1]? = some (.string x.type) ∧ (entCells l)[k * 3 + 2]? = some (.string x.data) := by
  induction l generalizing k with
  | nil => simp at h
  | cons y l ih =>
    cases k with
    | zero => simp at h; subst h; exact ⟨rfl, rfl, rfl⟩
    | succ k =>
      obtain ⟨h1, h2, h3⟩ := ih (k := k) (by simpa using h)
      have e1 : (k + 1) * 3 = k * 3 + 3 := by omega
      rw [e1]
      exact ⟨h1, h2, h3⟩
theorem entCells_one (l : List Ent) : ∀ u ∈ entCells l, u.oneCell' = true := by
  intro u hu
  obtain ⟨x, _, hx⟩ := List.mem_flatMap.1 hu
  simp only [List.mem_cons, List.not_mem_nil, or_false] at hx
  rcases hx with rfl | rfl | rfl <;> rfl
theorem infoEnt : (Tryz.prog.info? 56).map (fun i => (i.zero, i.size, i.bytes)) = some (some (.agg #[.string ⟨#[]⟩, .string ⟨#[]⟩, .string ⟨#[]⟩]), 3, 48) := by kernel_rfl
def OwnE (w : World) (B : Nat) (v : Value) (T : List Ent) : Prop := w.ownsRow B 56 3 v T.length (entCells T)
/-- What is small enough to be looked at. -/
def SmallE (T : List Ent) : Prop := ∀ x ∈ T, x.path.size ≤ 800000 ∧ x.type.size ≤ 800000 ∧ x.data.size ≤ 800000
set_option maxRecDepth 100000 in
set_option maxHeartbeats 1000000 in
theorem cloneE_any (w : World) (A : Option Addr) (c : Nat) (T : List Ent) (hA : RowC w A (entCells T)) (hl : T.length ≤ 1000000) (h0 : A = none → T.length = 0 ∧ c = 0) :
    Calls Tryz.prog 25 #[.slice A T.length c] w fun e w' => ∃ v, e = .returned v ∧ OwnE w' w.heap.size v T ∧ Sm No w w' := by
  have hsl := fun (w : World) (a : Option Addr) (n c : Nat) => Lib.run_eql_slice_nil (P := Tryz.prog) w 22 56 a n c 0 0 Tryz.underlying22
  cases A with
  | none =>
    obtain ⟨e, rfl⟩ := h0 rfl
    obtain rfl := List.eq_nil_of_length_eq_zero e
    clear hA
    go_enter Tryz.func25, Tryz.ntmps25
    go_wp2_with fail
    go_ret
    exact ⟨_, rfl, World.ownsRow_nil _ _ _ 3, Sm.refl _ _⟩
  | some a =>
    clear h0
    have HR := Lib.hid hA
    clear hA
    go_enter Tryz.func25, Tryz.ntmps25
    go_wp2_with (refine wpList_push_row rfl _ _ 22 56 rfl Tryz.underlying22 _ 3 48 infoEnt rfl (by decide) (by decide) w.heap.size 0 _ [] rfl (own_empty w _ _ (Nat.le_refl _)) a T.length c (entCells T) rfl (entCells_len T) (HR.out.no ((Sm.refl No w).alloc _)) (entCells_one T) (by omega) (by simp) ?_; intro v' w1 hown hs1 _ _)
    go_ret
    refine ⟨_, rfl, by simpa [OwnE] using hown, ((Sm.refl No w).alloc (.cells #[] 56)).trans hs1 (fun b hb e => ?_)⟩
    have e' : some w.heap.size = some b := e
    injection e' with e'
    omega

/-- A Router of the call's own, made behind world w; the blocks of K are none of its. -/
def OwnR (w w1 : World) (K : Nat → Prop) (r : Nat) (L : List Lt) : Prop := ∃ O, IsRouter w1 O r L ∧ Sm No w w1 ∧ (∀ b, O b → w.heap.size ≤ b) ∧ ∀ b, K b → b < w1.heap.size ∧ ¬ O b
section
variable {w w1 w2 : World} {K : Nat → Prop} {r : Nat} {L : List Lt}
theorem IsRouter.ltO {w : World} {O : Nat → Prop} {r : Nat} {L : List Lt} (h : IsRouter w O r L) : ∀ b, O b → b < w.heap.size := by
  obtain ⟨_, _, _, _, _, _, _, _, _, _, _, _, _, h⟩ := h
  exact h
theorem OwnR.no (h : OwnR w w1 K r L) (hs : Sm No w1 w2) : OwnR w w2 K r L := by
  obtain ⟨O, h1, h2, h3, h4⟩ := h
  exact ⟨O, h1.no hs, h2.trans hs (fun _ _ h => h), h3, fun b hb => ⟨Nat.lt_of_lt_of_le (h4 b hb).1 hs.size, (h4 b hb).2⟩⟩
theorem OwnR.more (h : OwnR w w1 K r L) (hs : Sm No w1 w2) {K2 : Nat → Prop} (hK : ∀ b, K2 b → (K b ∨ w1.heap.size ≤ b) ∧ b < w2.heap.size) : OwnR w w2 K2 r L := by
  obtain ⟨O, h1, h2, h3, h4⟩ := h
  refine ⟨O, h1.no hs, h2.trans hs (fun _ _ h => h), h3, fun b hb => ⟨(hK b hb).2, fun e => ?_⟩⟩
  rcases (hK b hb).1 with hb | hb
  · exact (h4 b hb).2 e
  · have := h1.ltO b e; omega
theorem OwnR.sm (h : OwnR w w1 K r L) : Sm No w w1 := by
  obtain ⟨_, _, h, _⟩ := h
  exact h
theorem addR_own {s : ByteArray} {id : Int} {A : Option Addr} {c : Nat} {ms : List Txt} (h : OwnR w w1 K r L) (hg : G0 w) (hL : Fine L) (hs : s.size ≤ 800000) (hA : RowC w1 A (ms.map strV)) (hn : A = none → c = 0) (hml : ms.length ≤ 4000) (hms : ∀ t ∈ ms, t.length ≤ 1000000) :
    Calls Tryz.prog 26 #[.pointer (some ⟨r, 0, none⟩), .string s, .int .i64 id, .slice A ms.length c] w1 fun e w2 => e = .returned (.int .i64 (addC L ⟨txt s, id, ms⟩)) ∧ OwnR w w2 K r (addS L ⟨txt s, id, ms⟩) ∧ Sm (fun b => ¬ K b) w1 w2 := by
  obtain ⟨O, h1, h2, h3, h4⟩ := h
  refine (add19_any w1 O r L s id A c ms h1 (hg.no h2) hL.1 (fun x hx => Nat.le_trans (hL.2 x hx) (by decide)) hs hA hn (by omega) hms).mono ?_
  rintro e w2 ⟨he, O', g1, g2, g3⟩
  refine ⟨he, ⟨O', g1, h2.fresh g2 h3, fun b hb => ?_, fun b hb => ⟨Nat.lt_of_lt_of_le (h4 b hb).1 g2.size, fun e => ?_⟩⟩, g2.mono (fun b _ e hk => (h4 b hk).2 e)⟩
  · rcases g3 b hb with g | g
    · exact h3 b g
    · exact Nat.le_trans h2.size g
  · rcases g3 b e with g | g
    · exact (h4 b hb).2 g
    · have := (h4 b hb).1; omega
end
/-- A Site of the table T; its blocks are of O. -/
def IsSite (w : World) (O : Nat → Prop) (s : Nat) (T : List Ent) : Prop :=
  ∃ (Q : Nat → Prop) (r : Nat) (vT : Value), IsRouter w Q r (routesL T) ∧ Bk w s 63 #[.pointer (some ⟨r, 0, none⟩), vT] ∧ OwnE w 0 vT T ∧ (∀ b, (Q b ∨ b = s ∨ vT.ownBlock = some b) → O b) ∧ ∀ b, O b → b < w.heap.size
theorem IsSite.sm {S O : Nat → Prop} {w w' : World} {s : Nat} {T : List Ent} (h : IsSite w O s T) (hs : Sm S w w') (hS : ∀ b, O b → ¬ S b) : IsSite w' O s T := by
  obtain ⟨Q, r, vT, h1, h2, h3, h4, h5⟩ := h
  exact ⟨Q, r, vT, h1.sm hs (fun b hb => hS b (h4 b (Or.inl hb))), h2.sm hs (hS s (h4 s (Or.inr (Or.inl rfl)))), own_row_sm h3 hs (fun b hb => hS b (h4 b (Or.inr (Or.inr hb)))), h4, fun b hb => Nat.lt_of_lt_of_le (h5 b hb) hs.size⟩
theorem IsSite.no {O : Nat → Prop} {w w' : World} {s : Nat} {T : List Ent} (h : IsSite w O s T) (hs : Sm No w w') : IsSite w' O s T := h.sm hs (fun _ _ h => h)
def NewPost (w : World) (T : List Ent) (e : Ending) (w' : World) : Prop :=
  (siteC T = 0 ∧ ∃ s O, e = .returned (.tuple #[.pointer (some ⟨s, 0, none⟩), .int .i64 0]) ∧ IsSite w' O s T ∧ Sm No w w' ∧ ∀ b, O b → w.heap.size ≤ b) ∨
  (siteC T ≠ 0 ∧ e = .returned (.tuple #[.pointer none, .int .i64 (siteC T)]) ∧ Sm No w w')
theorem fine_routes {T : List Ent} (h : T.length ≤ 40) : Fine (routesL T) := by
  refine ⟨by rw [routes_len]; omega, fun y hy => ?_⟩
  rcases mem_routes hy with hb | ⟨k, z, _, rfl⟩
  · simp only [base3, List.mem_cons, List.not_mem_nil, or_false] at hb
    rcases hb with rfl | rfl | rfl <;> decide
  · show ([GET] : List Txt).length ≤ 4000
    decide
end Go.Proofs.YtiglfbimijnpcaaGreatDoor

