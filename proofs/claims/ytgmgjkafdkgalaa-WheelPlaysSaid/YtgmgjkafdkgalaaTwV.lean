/- The document's Wheel (usherref6) in memory; New. -/
import Derived.Test.YtgmgjkafdkgalaaTwU
namespace Go.Proofs.Ytgmgjkafdkgalaa
open Go.RowKit Go.Proofs Go.Maps

def tmRow (L : List Tm) : List Value := L.flatMap fun t => [.int .i64 t.a, .int .i64 t.what, .int .i64 t.ord, .int .i64 t.h.slot, .int .i64 t.h.gen]
theorem tmRow_len (l : List Tm) : (tmRow l).length = l.length * 5 := by
  induction l with
  | nil => rfl
  | cons x l ih => simp only [tmRow, List.flatMap_cons, List.length_append, List.length_cons, List.length_nil] at ih ⊢; omega
theorem tmRow_at {l : List Tm} {k : Nat} {x : Tm} (h : l[k]? = some x) : (tmRow l)[k * 5]? = some (.int .i64 x.a) ∧ (tmRow l)[k * 5 + 1]? = some (.int .i64 x.what) ∧ (tmRow l)[k * 5 + 2]? = some (.int .i64 x.ord) ∧ (tmRow l)[k * 5 + 3]? = some (.int .i64 x.h.slot) ∧ (tmRow l)[k * 5 + 4]? = some (.int .i64 x.h.gen) := by
  induction l generalizing k with
  | nil => simp at h
  | cons y l ih =>
    cases k with
    | zero => simp at h; subst h; exact ⟨rfl, rfl, rfl, rfl, rfl⟩
    | succ k =>
      obtain ⟨h1, h2, h3, h4, h5⟩ := ih (k := k) (by simpa using h)
      have e1 : (k + 1) * 5 = k * 5 + 5 := by omega
      rw [e1]
      exact ⟨h1, h2, h3, h4, h5⟩
theorem tmRow_snoc (l : List Tm) (x : Tm) : tmRow (l ++ [x]) = tmRow l ++ [.int .i64 x.a, .int .i64 x.what, .int .i64 x.ord, .int .i64 x.h.slot, .int .i64 x.h.gen] := by simp [tmRow]
theorem tmRow_app (l m : List Tm) : tmRow (l ++ m) = tmRow l ++ tmRow m := by simp [tmRow]
theorem tmRow_set {l : List Tm} {k : Nat} {x : Tm} (h : l[k]? = some x) (a o : Nat) : tmRow (l.set k ⟨x.h, a, x.what, o⟩) = ((tmRow l).set (k * 5) (.int .i64 a)).set (k * 5 + 2) (.int .i64 o) := by
  induction l generalizing k with
  | nil => simp at h
  | cons y l ih =>
    cases k with
    | zero => simp at h; subst h; rfl
    | succ k =>
      have e1 : (k + 1) * 5 = k * 5 + 5 := by omega
      rw [e1]
      show tmRow (y :: l.set k ⟨x.h, a, x.what, o⟩) = _
      show [Value.int .i64 y.a, .int .i64 y.what, .int .i64 y.ord, .int .i64 y.h.slot, .int .i64 y.h.gen] ++ tmRow (l.set k ⟨x.h, a, x.what, o⟩) = _
      rw [ih (by simpa using h)]
      rfl
theorem infoTr : (Try.prog.info? 88).map (fun i => (i.zero, i.size, i.bytes)) = some (some (.agg #[.int .i64 0, .int .i64 0, .int .i64 0, .int .i64 0, .int .i64 0]), 5, 40) := by kernel_rfl

/-- The document's Wheel r in the state st; its blocks are of O. -/
def IsTw (w : World) (O : Nat → Prop) (r : Nat) (st : St) : Prop :=
  ∃ (Os : Nat → Prop) (s : Nat) (v : Value), Bk w r 56 #[.pointer (some ⟨s, 0, none⟩), v, .int .i64 st.now, .int .i64 st.ord] ∧ RSl w Os s st.sb ∧ w.ownsRow 0 88 5 v st.L.length (tmRow st.L) ∧ (∀ b, Os b → b ≠ r ∧ v.ownBlock ≠ some b) ∧ st.Ok ∧
    (∀ b, (Os b ∨ b = r ∨ v.ownBlock = some b) → O b) ∧ ∀ b, O b → b < w.heap.size
def TPost (w : World) (O : Nat → Prop) (r : Nat) (st : St) (w' : World) : Prop := ∃ O' : Nat → Prop, IsTw w' O' r st ∧ Sm O w w' ∧ ∀ b, O' b → O b ∨ w.heap.size ≤ b
theorem IsTw.sm {S O : Nat → Prop} {w w' : World} {r : Nat} {st : St} (h : IsTw w O r st) (hs : Sm S w w') (hS : ∀ b, O b → ¬ S b) : IsTw w' O r st := by
  obtain ⟨Os, s, v, h1, h2, h3, h4, h5, h6, h7⟩ := h
  exact ⟨Os, s, v, h1.sm hs (hS r (h6 r (Or.inr (Or.inl rfl)))), h2.sm hs (fun b hb => hS b (h6 b (Or.inl hb))), own_row_sm h3 hs (fun b hb => hS b (h6 b (Or.inr (Or.inr hb)))), h4, h5, h6, fun b hb => Nat.lt_of_lt_of_le (h7 b hb) hs.size⟩
theorem IsTw.no {O : Nat → Prop} {w w' : World} {r : Nat} {st : St} (h : IsTw w O r st) (hs : Sm No w w') : IsTw w' O r st := h.sm hs (fun _ _ h => h)
theorem TPost.same {w w' : World} {O : Nat → Prop} {r : Nat} {st : St} (h : IsTw w O r st) (hs : Sm No w w') : TPost w O r st w' := ⟨O, h.no hs, hs.any _, fun _ h => Or.inl h⟩

set_option maxRecDepth 100000 in
theorem rsNew_any (w : World) : Calls Try.prog 40 #[.int .i64 4096] w fun e w' => e = .returned (.tuple #[.pointer (some ⟨w.heap.size, 0, none⟩), .int .i64 0]) ∧ RSl w' (fun b => b = w.heap.size) w.heap.size [] ∧ Sm No w w' ∧ w'.heap.size = w.heap.size + 1 := by
  go_enter Try.func40, Try.ntmps40
  go_wp2_with fail
  go_ret2
  refine ⟨rfl, ⟨_, _, _, Bk.new w _ _, World.ownsRow_nil _ _ _ _, World.ownsRow_nil _ _ _ _, World.ownsRow_nil _ _ _ _, (fun b hb => by cases hb), rfl, (fun b hb => by rcases hb with hb | hb | hb <;> cases hb), fun b hb => by subst hb; simp⟩, (Sm.refl _ _).alloc _, by simp⟩
set_option maxRecDepth 100000 in
theorem twnew_any (w : World) (now : Nat) (hnow : now ≤ 1099511627776) :
    Calls Try.prog 20 #[.int .i64 now] w fun e w' => ∃ r O, e = .returned (.tuple #[.pointer (some ⟨r, 0, none⟩), .int .i64 0]) ∧ IsTw w' O r (St.new now) ∧ Sm No w w' ∧ ∀ b, O b → w.heap.size ≤ b := by
  have k1 : decide ((now : Int) < 0) = false := by simp
  have k2 : decide (1099511627776 < (now : Int)) = false := by simp; omega
  go_enter Try.func20, Try.ntmps20
  go_wp2_with fail
  refine (rsNew_any w).mono ?_
  rintro e w2 ⟨rfl, hS2, hs2, hz2⟩
  have H2 := Lib.hid (And.intro hS2 (And.intro hs2 hz2))
  clear hS2 hs2 hz2
  go_wp2_with fail
  go_ret2
  have h3 := (Sm.refl No w2).alloc (.cells #[.pointer (some ⟨w.heap.size, 0, none⟩), .slice none 0 0, .int .i64 now, .int .i64 0] 56)
  refine ⟨w2.heap.size, fun b => w.heap.size ≤ b ∧ b < w.heap.size + 2, rfl, ⟨fun b => b = w.heap.size, w.heap.size, _, Bk.new w2 _ _, H2.out.1.no h3, World.ownsRow_nil _ _ _ _, fun b hb => ⟨by have := H2.out.2.2; omega, fun e => by cases e⟩, St.Ok.new hnow, fun b hb => ?_, fun b hb => ?_⟩, H2.out.2.1.trans h3 (fun _ _ h => h), fun b hb => hb.1⟩
  · have := H2.out.2.2
    rcases hb with hb | hb | hb
    · omega
    · omega
    · cases hb
  · have := H2.out.2.2
    simp
    omega
end Go.Proofs.Ytgmgjkafdkgalaa
