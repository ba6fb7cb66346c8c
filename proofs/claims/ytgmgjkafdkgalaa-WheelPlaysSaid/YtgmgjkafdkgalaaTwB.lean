/- The program's Wheel and the document's side by side: neither is turned by the other one's calls. -/
import Derived.Test.YtgmgjkafdkgalaaTwAv
import Derived.Test.YtgmgjkafdkgalaaWhDu
namespace Go.Proofs.Ytgmgjkafdkgalaa
open Go.RowKit Go.Proofs Go.Maps

def Pl6 (w w1 : World) (K : Nat → Prop) (r1 : Nat) (st1 : St) (r2 : Nat) (st2 : St) : Prop :=
  ∃ O1 O2 : Nat → Prop, IsWheel w1 O1 r1 st1 ∧ IsTw w1 O2 r2 st2 ∧ Sm No w w1 ∧ (∀ b, O1 b → w.heap.size ≤ b) ∧ (∀ b, O2 b → w.heap.size ≤ b) ∧ (∀ b, O1 b → ¬ O2 b) ∧ ∀ b, K b → b < w1.heap.size ∧ ¬ O1 b ∧ ¬ O2 b
theorem IsTw.below {w : World} {O : Nat → Prop} {r : Nat} {st : St} (h : IsTw w O r st) {b : Nat} (hb : O b) : b < w.heap.size := by
  obtain ⟨_, _, _, _, _, _, _, _, _, h⟩ := h
  exact h b hb
section
variable {w w1 w2 : World} {K : Nat → Prop} {r1 r2 : Nat} {st1 st2 st' : St} {E : Ending → Prop} {f : FuncId} {args : Array Value}
theorem Pl6.sm (h : Pl6 w w1 K r1 st1 r2 st2) : Sm No w w1 := by
  obtain ⟨_, _, _, _, h3, _⟩ := h
  exact h3
theorem Pl6.lt (h : Pl6 w w1 K r1 st1 r2 st2) {b : Nat} (hb : K b) : b < w1.heap.size := by
  obtain ⟨_, _, _, _, _, _, _, _, h7⟩ := h
  exact (h7 b hb).1
theorem Pl6.ok (h : Pl6 w w1 K r1 st1 r2 st2) : st1.Ok := by
  obtain ⟨_, _, h1, _⟩ := h
  obtain ⟨_, _, _, _, _, _, _, _, h4, _⟩ := h1
  exact h4
theorem Pl6.re (h : Pl6 w w1 K r1 st1 r2 st2) {S K2 : Nat → Prop} (hs : Sm S w1 w2) (hS : ∀ b, S b → K b) (hf : ∀ b, S b → w.heap.size ≤ b) (hK : ∀ b, K2 b → (K b ∨ w1.heap.size ≤ b) ∧ b < w2.heap.size) : Pl6 w w2 K2 r1 st1 r2 st2 := by
  obtain ⟨O1, O2, h1, h2, h3, h4, h5, h6, h7⟩ := h
  refine ⟨O1, O2, h1.sm hs (fun b hb e => (h7 b (hS b e)).2.1 hb), h2.sm hs (fun b hb e => (h7 b (hS b e)).2.2 hb), ((h3.any _).trans hs (fun b _ e => e)).mono (fun b hb e => by have := hf b e; omega), h4, h5, h6, fun b hb => ?_⟩
  refine ⟨(hK b hb).2, fun e => ?_, fun e => ?_⟩
  · rcases (hK b hb).1 with hb | hb
    · exact (h7 b hb).2.1 e
    · have := h1.below e; omega
  · rcases (hK b hb).1 with hb | hb
    · exact (h7 b hb).2.2 e
    · have := h2.below e; omega
theorem Pl6.no (h : Pl6 w w1 K r1 st1 r2 st2) (hs : Sm No w1 w2) : Pl6 w w2 K r1 st1 r2 st2 :=
  h.re hs (fun _ h => h.elim) (fun _ h => h.elim) (fun _ hb => ⟨Or.inl hb, Nat.lt_of_lt_of_le (h.lt hb) hs.size⟩)
theorem Pl6.less (h : Pl6 w w1 K r1 st1 r2 st2) {K2 : Nat → Prop} (hK : ∀ b, K2 b → K b) : Pl6 w w1 K2 r1 st1 r2 st2 :=
  h.re (Sm.refl No w1) (fun _ h => h.elim) (fun _ h => h.elim) (fun b hb => ⟨Or.inl (hK b hb), h.lt (hK b hb)⟩)
theorem Pl6.stepL (h : Pl6 w w1 K r1 st1 r2 st2) (hc : ∀ O, (∀ b, K b → ¬ O b) → IsWheel w1 O r1 st1 → Calls Try.prog f args w1 fun e w2 => E e ∧ WPost w1 O r1 st' w2) :
    Calls Try.prog f args w1 fun e w2 => E e ∧ Pl6 w w2 K r1 st' r2 st2 ∧ Sm (NotK K) w1 w2 := by
  obtain ⟨O1, O2, h1, h2, h3, h4, h5, h6, h7⟩ := h
  refine (hc O1 (fun b hb => (h7 b hb).2.1) h1).mono fun e w2 ⟨he, O', g1, g2, g3⟩ => ⟨he, ⟨O', O2, g1, h2.sm g2 (fun b hb e => h6 b e hb), ((h3.any _).trans g2 (fun b _ e => e)).mono (fun b hb e => by have := h4 b e; omega), fun b hb => ?_, h5, fun b e f => ?_, fun b hb => ⟨Nat.lt_of_lt_of_le (h7 b hb).1 g2.size, fun e => ?_, (h7 b hb).2.2⟩⟩, g2.mono (fun b _ e hk => (h7 b hk).2.1 e)⟩
  · rcases g3 b hb with e | e
    · exact h4 b e
    · exact Nat.le_trans h3.size e
  · rcases g3 b e with e | e
    · exact h6 b e f
    · have := h2.below f; omega
  · rcases g3 b e with e | e
    · exact (h7 b hb).2.1 e
    · have := (h7 b hb).1; omega
theorem Pl6.stepR (h : Pl6 w w1 K r1 st1 r2 st2) (hc : ∀ O, (∀ b, K b → ¬ O b) → IsTw w1 O r2 st2 → Calls Try.prog f args w1 fun e w2 => E e ∧ TPost w1 O r2 st' w2) :
    Calls Try.prog f args w1 fun e w2 => E e ∧ Pl6 w w2 K r1 st1 r2 st' ∧ Sm (NotK K) w1 w2 := by
  obtain ⟨O1, O2, h1, h2, h3, h4, h5, h6, h7⟩ := h
  refine (hc O2 (fun b hb => (h7 b hb).2.2) h2).mono fun e w2 ⟨he, O', g1, g2, g3⟩ => ⟨he, ⟨O1, O', h1.sm g2 (fun b hb e => h6 b hb e), g1, ((h3.any _).trans g2 (fun b _ e => e)).mono (fun b hb e => by have := h5 b e; omega), h4, fun b hb => ?_, fun b e f => ?_, fun b hb => ⟨Nat.lt_of_lt_of_le (h7 b hb).1 g2.size, (h7 b hb).2.1, fun e => ?_⟩⟩, g2.mono (fun b _ e hk => (h7 b hk).2.2 e)⟩
  · rcases g3 b hb with e | e
    · exact h5 b e
    · exact Nat.le_trans h3.size e
  · rcases g3 b f with f | f
    · exact h6 b e f
    · have := h1.below e; omega
  · rcases g3 b e with e | e
    · exact (h7 b hb).2.2 e
    · have := (h7 b hb).1; omega
theorem pl_new (now : Nat) (hnow : now ≤ 1099511627776) (h : Own6 w w1 No r1 st1) :
    Calls Try.prog 20 #[.int .i64 now] w1 fun e w2 => ∃ r, e = .returned (.tuple #[.pointer (some ⟨r, 0, none⟩), .int .i64 0]) ∧ Pl6 w w2 No r1 st1 r (St.new now) := by
  obtain ⟨O1, h1, h2, h3, h4⟩ := h
  refine (twnew_any w1 now hnow).mono fun e w2 ⟨r, O, he, g1, g2, g3⟩ => ⟨r, he, O1, O, h1.no g2, g1, h2.trans g2 (fun _ _ h => h), h3, fun b hb => Nat.le_trans h2.size (g3 b hb), fun b e f => ?_, fun b hb => hb.elim⟩
  have := h1.below e
  have := g3 b f
  omega
theorem pl_advL (n : Int) (h : Pl6 w w1 K r1 st1 r2 st2) (ho : st1.ord ≤ 4000) :
    Calls Try.prog 13 #[.pointer (some ⟨r1, 0, none⟩), .int .i64 n] w1 fun e w2 => ∃ v, e = .returned v ∧ OwnI w2 w1.heap.size v (advW st1 n).1 ∧ Pl6 w w2 (fun b => K b ∨ v.ownBlock = some b) r1 (advW st1 n).2 r2 st2 ∧ Sm (NotK K) w1 w2 := by
  obtain ⟨O1, O2, h1, h2, h3, h4, h5, h6, h7⟩ := h
  refine (advance_any w1 O1 r1 st1 n h1 ho).mono fun e w2 ⟨v, he, g1, g2, g3⟩ => ⟨v, he, g1, ⟨O1, O2, g2, h2.sm g3 (fun b hb e => h6 b e hb), ((h3.any _).trans g3 (fun b _ e => e)).mono (fun b hb e => by have := h4 b e; omega), h4, h5, h6, fun b hb => ?_⟩, g3.mono (fun b _ e hk => (h7 b hk).2.1 e)⟩
  rcases hb with hb | hb
  · exact ⟨Nat.lt_of_lt_of_le (h7 b hb).1 g3.size, (h7 b hb).2⟩
  · exact ⟨own_row_lt g1 hb, fun e => by have := h1.below e; have := row_base g1 hb; omega, fun e => by have := h2.below e; have := row_base g1 hb; omega⟩
theorem pl_advR (n : Int) (h : Pl6 w w1 K r1 st1 r2 st2) (ho : st2.ord ≤ 4000) :
    Calls Try.prog 25 #[.pointer (some ⟨r2, 0, none⟩), .int .i64 n] w1 fun e w2 => ∃ v, e = .returned v ∧ OwnI w2 w1.heap.size v (advW st2 n).1 ∧ Pl6 w w2 K r1 st1 r2 (advW st2 n).2 ∧ Sm (NotK K) w1 w2 := by
  obtain ⟨O1, O2, h1, h2, h3, h4, h5, h6, h7⟩ := h
  refine (twadv_any w1 O2 r2 st2 n h2 ho).mono fun e w2 ⟨v, O', he, g1, g2, g3, g4, _⟩ => ⟨v, he, g1, ⟨O1, O', h1.sm g3 (fun b hb e => h6 b hb e), g2, ((h3.any _).trans g3 (fun b _ e => e)).mono (fun b hb e => by have := h5 b e; omega), h4, fun b hb => ?_, fun b e f => ?_, fun b hb => ⟨Nat.lt_of_lt_of_le (h7 b hb).1 g3.size, (h7 b hb).2.1, fun e => ?_⟩⟩, g3.mono (fun b _ e hk => (h7 b hk).2.2 e)⟩
  · rcases g4 b hb with e | e
    · exact h5 b e
    · exact Nat.le_trans h3.size e
  · rcases g4 b f with f | f
    · exact h6 b e f
    · have := h1.below e; omega
  · rcases g4 b e with e | e
    · exact (h7 b hb).2.2 e
    · have := (h7 b hb).1; omega
theorem pl_addL (a what : Int) (h : Pl6 w w1 K r1 st1 r2 st2) (ho : st1.ord ≤ 4000) :
    Calls Try.prog 12 #[.pointer (some ⟨r1, 0, none⟩), .int .i64 a, .int .i64 what] w1 fun e w2 => e = .returned (.tuple #[hv (addW st1 a what).1, .int .i64 (addW st1 a what).2.1]) ∧ Pl6 w w2 K r1 (addW st1 a what).2.2 r2 st2 ∧ Sm (NotK K) w1 w2 :=
  h.stepL (fun O _ hO => add_any w1 O r1 st1 a what hO ho)
theorem pl_addR (a what : Int) (h : Pl6 w w1 K r1 st1 r2 st2) (ho : st2.ord ≤ 4000) :
    Calls Try.prog 22 #[.pointer (some ⟨r2, 0, none⟩), .int .i64 a, .int .i64 what] w1 fun e w2 => e = .returned (.tuple #[hv (addW st2 a what).1, .int .i64 (addW st2 a what).2.1]) ∧ Pl6 w w2 K r1 st1 r2 (addW st2 a what).2.2 ∧ Sm (NotK K) w1 w2 :=
  h.stepR (fun O _ hO => twadd_any w1 O r2 st2 a what hO ho)
theorem pl_resetL (k : Hd) (a : Int) (h : Pl6 w w1 K r1 st1 r2 st2) (ok : okH k) (ho : st1.ord ≤ 90000) :
    Calls Try.prog 18 #[.pointer (some ⟨r1, 0, none⟩), hv k, .int .i64 a] w1 fun e w2 => e = .returned (.int .i64 (resetW st1 k a).1) ∧ Pl6 w w2 K r1 (resetW st1 k a).2 r2 st2 ∧ Sm (NotK K) w1 w2 :=
  h.stepL (fun O _ hO => reset_any w1 O r1 st1 k a hO ok ho)
theorem pl_resetR (k : Hd) (a : Int) (h : Pl6 w w1 K r1 st1 r2 st2) (ho : st2.ord ≤ 90000) :
    Calls Try.prog 23 #[.pointer (some ⟨r2, 0, none⟩), hv k, .int .i64 a] w1 fun e w2 => e = .returned (.int .i64 (resetW st2 k a).1) ∧ Pl6 w w2 K r1 st1 r2 (resetW st2 k a).2 ∧ Sm (NotK K) w1 w2 :=
  h.stepR (fun O _ hO => twreset_any w1 O r2 st2 k a hO ho)
theorem pl_cancelL (A : Option Addr) (c : Nat) (hs : List Hd) (h : Pl6 w w1 K r1 st1 r2 st2) (hA : RowC w1 A (hCells hs)) (hAK : ∀ a, A = some a → K a.block) (hl : hs.length ≤ 1000000) (ok : ∀ h ∈ hs, okH h) (ho : st1.ord ≤ 4000) :
    Calls Try.prog 19 #[.pointer (some ⟨r1, 0, none⟩), .slice A hs.length c] w1 fun e w2 => e = .returned (.int .i64 (cancelW st1 hs).1) ∧ Pl6 w w2 K r1 (cancelW st1 hs).2 r2 st2 ∧ Sm (NotK K) w1 w2 :=
  h.stepL (fun O hK hO => (cancel_any w1 O r1 st1 A c hs hO hA (fun a e => hK _ (hAK a e)) hl ok ho).mono fun _ _ ⟨he, g1, g2⟩ => ⟨he, O, g1, g2, fun _ h => Or.inl h⟩)
theorem pl_cancelR (A : Option Addr) (c : Nat) (hs : List Hd) (h : Pl6 w w1 K r1 st1 r2 st2) (hA : RowC w1 A (hCells hs)) (hAK : ∀ a, A = some a → K a.block) (hl : hs.length ≤ 1000000) (ok : ∀ h ∈ hs, okH h) (ho : st2.ord ≤ 4000) :
    Calls Try.prog 24 #[.pointer (some ⟨r2, 0, none⟩), .slice A hs.length c] w1 fun e w2 => e = .returned (.int .i64 (cancelW st2 hs).1) ∧ Pl6 w w2 K r1 st1 r2 (cancelW st2 hs).2 ∧ Sm (NotK K) w1 w2 :=
  h.stepR (fun O hK hO => twcancel_any w1 O r2 st2 A c hs hO hA (fun a e => hK _ (hAK a e)) hl ok ho)
theorem pl_whereL (k : Hd) (h : Pl6 w w1 K r1 st1 r2 st2) (ok : okH k) : Calls Try.prog 16 #[.pointer (some ⟨r1, 0, none⟩), hv k] w1 fun e w2 => e = .returned (whereV (whereW st1 k)) ∧ Sm No w1 w2 := by
  obtain ⟨O1, O2, h1, h2, _⟩ := h
  exact where_any w1 O1 r1 st1 k h1 ok
theorem pl_whereR (k : Hd) (h : Pl6 w w1 K r1 st1 r2 st2) (ho : st2.ord ≤ 90000) : Calls Try.prog 28 #[.pointer (some ⟨r2, 0, none⟩), hv k] w1 fun e w2 => e = .returned (whereV (whereW st2 k)) ∧ Sm No w1 w2 := by
  obtain ⟨O1, O2, h1, h2, _⟩ := h
  exact twwhere_any w1 O2 r2 st2 k h2 ho
theorem pl_nextL (h : Pl6 w w1 K r1 st1 r2 st2) : Calls Try.prog 17 #[.pointer (some ⟨r1, 0, none⟩)] w1 fun e w2 => e = .returned (.tuple #[.int .i64 (nextW st1).1, .bool (nextW st1).2]) ∧ Sm No w1 w2 := by
  obtain ⟨O1, O2, h1, h2, _⟩ := h
  exact next_any w1 O1 r1 st1 h1
theorem pl_nextR (h : Pl6 w w1 K r1 st1 r2 st2) (ho : st2.ord ≤ 90000) : Calls Try.prog 26 #[.pointer (some ⟨r2, 0, none⟩)] w1 fun e w2 => e = .returned (.tuple #[.int .i64 (nextW st2).1, .bool (nextW st2).2]) ∧ Sm No w1 w2 := by
  obtain ⟨O1, O2, h1, h2, _⟩ := h
  exact twnext_any w1 O2 r2 st2 h2 ho
theorem pl_len (h : Pl6 w w1 K r1 st1 r2 st2) : Calls Try.prog 15 #[.pointer (some ⟨r1, 0, none⟩)] w1 fun e w2 => e = .returned (.int .i64 st1.L.length) ∧ w2 = w1 := by
  obtain ⟨O1, O2, h1, h2, _⟩ := h
  exact wlen_any w1 O1 r1 st1 h1
theorem pl_now (h : Pl6 w w1 K r1 st1 r2 st2) : Calls Try.prog 27 #[.pointer (some ⟨r1, 0, none⟩)] w1 fun e w2 => e = .returned (.int .i64 st1.now) ∧ w2 = w1 := by
  obtain ⟨O1, O2, h1, h2, _⟩ := h
  exact wnow_any w1 O1 r1 st1 h1
/-- What can be read of the document's Wheel. -/
theorem Pl6.cells (h : Pl6 w w1 K r1 st1 r2 st2) : r2 < w1.heap.size ∧ w1.cell? ⟨r2, 2, none⟩ = some (.int .i64 st2.now) ∧ ∃ A c, w1.cell? ⟨r2, 1, none⟩ = some (.slice A st2.L.length c) := by
  obtain ⟨O1, O2, h1, h2, _⟩ := h
  obtain ⟨Os, s, v, g1, g2, g3, _⟩ := h2
  obtain ⟨A, c, rfl, _⟩ := own_rowC g3
  exact ⟨g1.lt, g1.at 2 rfl, A, c, g1.at 1 rfl⟩
end
/-- A time, so much later. -/
def aft (now : Nat) (n : Int) : Int := if 1099511627776 < n then n else (now : Int) + n
set_option maxRecDepth 100000 in
theorem after_any (w : World) (now : Nat) (n : Int) (hnow : now ≤ 1099511627776) (hn : (Lit.int .i64 n).wf = true) :
    Calls Try.prog 21 #[.int .i64 now, .int .i64 n] w fun e w' => e = .returned (.int .i64 (aft now n)) ∧ w' = w := by
  have hb := bounds_i64 hn
  unfold aft
  by_cases h : 1099511627776 < n
  · rw [if_pos h]
    go_enter Try.func21, Try.ntmps21
    go_wp2_with fail
    go_ret
    exact ⟨rfl, rfl⟩
  · rw [if_neg h]
    go_enter Try.func21, Try.ntmps21
    go_wp2_with fail
    go_ret
    exact ⟨rfl, rfl⟩
set_option maxRecDepth 100000 in
theorem wnew_no (w : World) (now : Int) (h : ¬ (0 ≤ now ∧ now ≤ 1099511627776)) :
    Calls Try.prog 11 #[.int .i64 now] w fun e w' => e = .returned (.tuple #[.pointer none, .int .i64 1]) ∧ Sm No w w' := by
  have ht : isTime now = false := by simp [isTime]; omega
  have HT := Lib.hid ht
  clear ht
  go_enter Try.func11, Try.ntmps11
  go_wp2_with fail
  refine (isTime_any w _).mono ?_
  rw [HT.out]
  rintro e w1 ⟨rfl, rfl⟩
  go_wp2_with fail
  go_ret2
  exact ⟨rfl, Sm.refl _ _⟩
set_option maxRecDepth 100000 in
theorem twnew_no (w : World) (now : Int) (h : ¬ (0 ≤ now ∧ now ≤ 1099511627776)) :
    Calls Try.prog 20 #[.int .i64 now] w fun e w' => e = .returned (.tuple #[.pointer none, .int .i64 1]) ∧ Sm No w w' := by
  rcases (show now < 0 ∨ 1099511627776 < now by omega) with h1 | h1
  · go_enter Try.func20, Try.ntmps20
    go_wp2_with fail
    go_ret2
    exact ⟨rfl, Sm.refl _ _⟩
  · have h2 : ¬ now < 0 := by omega
    go_enter Try.func20, Try.ntmps20
    go_wp2_with fail
    go_ret2
    exact ⟨rfl, Sm.refl _ _⟩
theorem addW_okH {s : St} (o : s.Ok) (ho : s.ord ≤ 3999) (a what : Int) : okH (addW s a what).1 := by
  by_cases ht : isTime a = true
  · have h1 := addW_ok o a what
    have e : addW s a what = (newH s.sb, 0, { s with ord := s.ord + 1, sb := putB s.sb what, L := s.L ++ [⟨newH s.sb, a.toNat, what, s.ord + 1⟩] }) := by unfold addW; rw [if_pos ht]
    rw [e] at h1 ⊢
    exact okH_in h1 (by show s.ord + 1 ≤ 4000; omega) (t := ⟨newH s.sb, a.toNat, what, s.ord + 1⟩) (by simp)
  · unfold addW
    rw [if_neg ht]
    show okH ⟨0, 0⟩
    exact ⟨by decide, by decide⟩
theorem addW_ord (s : St) (a what : Int) : (addW s a what).2.2.ord ≤ s.ord + 1 := by
  unfold addW
  split <;> simp
theorem resetW_ord (s : St) (h : Hd) (a : Int) : (resetW s h a).2.ord ≤ s.ord + 1 := by
  unfold resetW
  split
  · split <;> simp
  · simp
theorem resetW_now (s : St) (h : Hd) (a : Int) : (resetW s h a).2.now = s.now := by
  unfold resetW
  split
  · split <;> rfl
  · rfl
theorem cancelW_kept (l : List Hd) : ∀ s : St, (cancelW s l).2.ord = s.ord ∧ (cancelW s l).2.now = s.now := by
  induction l with
  | nil => intro s; exact ⟨rfl, rfl⟩
  | cons h l ih =>
    intro s
    unfold cancelW
    split
    · exact ih (cancel1 s h)
    · exact ih s
section
variable {w w1 : World} {K : Nat → Prop} {r1 r2 : Nat} {st1 st2 st' : St}
theorem after_say {now : Nat} {n m : Int} (hm : Hid (aft now n = m)) (w : World) (hnow : now ≤ 1099511627776) (hn : (Lit.int .i64 n).wf = true) :
    Calls Try.prog 21 #[.int .i64 now, .int .i64 n] w fun e w' => e = .returned (.int .i64 m) ∧ w' = w := by
  rw [← hm.out]; exact after_any w now n hnow hn
theorem addL_say {a what cd : Int} {hd : Hd} (hr : Hid (addW st1 a what = (hd, cd, st'))) (h : Pl6 w w1 K r1 st1 r2 st2) (ho : st1.ord ≤ 4000) :
    Calls Try.prog 12 #[.pointer (some ⟨r1, 0, none⟩), .int .i64 a, .int .i64 what] w1 fun e w2 => e = .returned (.tuple #[.agg #[.int .i64 hd.slot, .int .i64 hd.gen], .int .i64 cd]) ∧ Pl6 w w2 K r1 st' r2 st2 ∧ Sm (NotK K) w1 w2 := by
  have := pl_addL a what h ho
  rw [hr.out] at this
  exact this
theorem addR_say {a what cd : Int} {hd : Hd} (hr : Hid (addW st2 a what = (hd, cd, st'))) (h : Pl6 w w1 K r1 st1 r2 st2) (ho : st2.ord ≤ 4000) :
    Calls Try.prog 22 #[.pointer (some ⟨r2, 0, none⟩), .int .i64 a, .int .i64 what] w1 fun e w2 => e = .returned (.tuple #[.agg #[.int .i64 hd.slot, .int .i64 hd.gen], .int .i64 cd]) ∧ Pl6 w w2 K r1 st1 r2 st' ∧ Sm (NotK K) w1 w2 := by
  have := pl_addR a what h ho
  rw [hr.out] at this
  exact this
theorem resetL_say {k : Hd} {a n : Int} (hr : Hid (resetW st1 k a = (n, st'))) (h : Pl6 w w1 K r1 st1 r2 st2) (ok : okH k) (ho : st1.ord ≤ 4000) :
    Calls Try.prog 18 #[.pointer (some ⟨r1, 0, none⟩), .agg #[.int .i64 k.slot, .int .i64 k.gen], .int .i64 a] w1 fun e w2 => e = .returned (.int .i64 n) ∧ Pl6 w w2 K r1 st' r2 st2 ∧ Sm (NotK K) w1 w2 := by
  have := pl_resetL k a h ok (by omega)
  rw [hr.out] at this
  exact this
theorem resetR_say {k : Hd} {a n : Int} (hr : Hid (resetW st2 k a = (n, st'))) (h : Pl6 w w1 K r1 st1 r2 st2) (ho : st2.ord ≤ 4000) :
    Calls Try.prog 23 #[.pointer (some ⟨r2, 0, none⟩), .agg #[.int .i64 k.slot, .int .i64 k.gen], .int .i64 a] w1 fun e w2 => e = .returned (.int .i64 n) ∧ Pl6 w w2 K r1 st1 r2 st' ∧ Sm (NotK K) w1 w2 := by
  have := pl_resetR k a h (by omega)
  rw [hr.out] at this
  exact this
theorem rowC_two {w : World} {b : Nat} {h1 h2 : Hd} (hb : Bk w b 29 #[.int .i64 h1.slot, .int .i64 h1.gen, .int .i64 h2.slot, .int .i64 h2.gen]) : RowC w (some ⟨b, 0, none⟩) (hCells [h1, h2]) := fun j u hj => ⟨b, 0, rfl, hb.lt, by
  rw [Nat.zero_add]
  exact hb.at j (by simpa [hCells] using hj)⟩
theorem cancelL_say {h1 h2 : Hd} {n : Int} {b : Nat} (hr : Hid (cancelW st1 [h1, h2] = (n, st'))) (h : Pl6 w w1 K r1 st1 r2 st2) (hb : Bk w1 b 29 #[.int .i64 h1.slot, .int .i64 h1.gen, .int .i64 h2.slot, .int .i64 h2.gen]) (hK : K b) (ok : okH h1 ∧ okH h2) (ho : st1.ord ≤ 4000) :
    Calls Try.prog 19 #[.pointer (some ⟨r1, 0, none⟩), .slice (some ⟨b, 0, none⟩) 2 2] w1 fun e w2 => e = .returned (.int .i64 n) ∧ Pl6 w w2 K r1 st' r2 st2 ∧ Sm (NotK K) w1 w2 := by
  have := pl_cancelL (some ⟨b, 0, none⟩) 2 [h1, h2] h (rowC_two hb) (fun a e => by injection e with e; subst e; exact hK) (by simp) (fun k hk => by
    simp only [List.mem_cons, List.not_mem_nil, or_false] at hk
    rcases hk with rfl | rfl
    · exact ok.1
    · exact ok.2) ho
  rw [hr.out] at this
  exact this
theorem cancelR_say {h1 h2 : Hd} {n : Int} {b : Nat} (hr : Hid (cancelW st2 [h1, h2] = (n, st'))) (h : Pl6 w w1 K r1 st1 r2 st2) (hb : Bk w1 b 29 #[.int .i64 h1.slot, .int .i64 h1.gen, .int .i64 h2.slot, .int .i64 h2.gen]) (hK : K b) (ok : okH h1 ∧ okH h2) (ho : st2.ord ≤ 4000) :
    Calls Try.prog 24 #[.pointer (some ⟨r2, 0, none⟩), .slice (some ⟨b, 0, none⟩) 2 2] w1 fun e w2 => e = .returned (.int .i64 n) ∧ Pl6 w w2 K r1 st1 r2 st' ∧ Sm (NotK K) w1 w2 := by
  have := pl_cancelR (some ⟨b, 0, none⟩) 2 [h1, h2] h (rowC_two hb) (fun a e => by injection e with e; subst e; exact hK) (by simp) (fun k hk => by
    simp only [List.mem_cons, List.not_mem_nil, or_false] at hk
    rcases hk with rfl | rfl
    · exact ok.1
    · exact ok.2) ho
  rw [hr.out] at this
  exact this
theorem advL_say {n : Int} {L : List Int} (hr : Hid (advW st1 n = (L, st'))) (h : Pl6 w w1 K r1 st1 r2 st2) (ho : st1.ord ≤ 4000) :
    Calls Try.prog 13 #[.pointer (some ⟨r1, 0, none⟩), .int .i64 n] w1 fun e w2 => ∃ v, e = .returned v ∧ OwnI w2 w1.heap.size v L ∧ Pl6 w w2 (fun b => K b ∨ v.ownBlock = some b) r1 st' r2 st2 ∧ Sm (NotK K) w1 w2 := by
  have := pl_advL n h ho
  rw [hr.out] at this
  exact this
theorem advR_say {n : Int} {L : List Int} (hr : Hid (advW st2 n = (L, st'))) (h : Pl6 w w1 K r1 st1 r2 st2) (ho : st2.ord ≤ 4000) :
    Calls Try.prog 25 #[.pointer (some ⟨r2, 0, none⟩), .int .i64 n] w1 fun e w2 => ∃ v, e = .returned v ∧ OwnI w2 w1.heap.size v L ∧ Pl6 w w2 K r1 st1 r2 st' ∧ Sm (NotK K) w1 w2 := by
  have := pl_advR n h ho
  rw [hr.out] at this
  exact this
theorem advW_len (s : St) (n : Int) : (advW s n).1.length ≤ s.L.length := by
  show ((dueL (goesTo s n) s.L).map (·.what)).length ≤ _
  rw [List.length_map, (dueL_perm _ _).length_eq]
  exact List.length_filter_le _ _
theorem whereL_say {k : Hd} {a b c : Int} (hr : Hid (whereW st1 k = (a, b, c))) (h : Pl6 w w1 K r1 st1 r2 st2) (ok : okH k) : Calls Try.prog 16 #[.pointer (some ⟨r1, 0, none⟩), .agg #[.int .i64 k.slot, .int .i64 k.gen]] w1 fun e w2 => e = .returned (.tuple #[.int .i64 a, .int .i64 b, .int .i64 c]) ∧ Sm No w1 w2 := by
  have := pl_whereL k h ok
  rw [hr.out] at this
  exact this
theorem whereR_say {k : Hd} {a b c : Int} (hr : Hid (whereW st2 k = (a, b, c))) (h : Pl6 w w1 K r1 st1 r2 st2) (ho : st2.ord ≤ 4000) : Calls Try.prog 28 #[.pointer (some ⟨r2, 0, none⟩), .agg #[.int .i64 k.slot, .int .i64 k.gen]] w1 fun e w2 => e = .returned (.tuple #[.int .i64 a, .int .i64 b, .int .i64 c]) ∧ Sm No w1 w2 := by
  have := pl_whereR k h (by omega)
  rw [hr.out] at this
  exact this
theorem nextL_say {n : Int} {b : Bool} (hr : Hid (nextW st1 = (n, b))) (h : Pl6 w w1 K r1 st1 r2 st2) : Calls Try.prog 17 #[.pointer (some ⟨r1, 0, none⟩)] w1 fun e w2 => e = .returned (.tuple #[.int .i64 n, .bool b]) ∧ Sm No w1 w2 := by
  have := pl_nextL h
  rw [hr.out] at this
  exact this
theorem nextR_say {n : Int} {b : Bool} (hr : Hid (nextW st2 = (n, b))) (h : Pl6 w w1 K r1 st1 r2 st2) (ho : st2.ord ≤ 4000) : Calls Try.prog 26 #[.pointer (some ⟨r2, 0, none⟩)] w1 fun e w2 => e = .returned (.tuple #[.int .i64 n, .bool b]) ∧ Sm No w1 w2 := by
  have := pl_nextR h (by omega)
  rw [hr.out] at this
  exact this
/-- The document's time, whatever the state is called. -/
theorem Pl6.nowAt (h : Pl6 w w1 K r1 st1 r2 st2) {n : Nat} (e : st2.now = n) : w1.cell? ⟨r2, 2, none⟩ = some (.int .i64 n) := e ▸ h.cells.2.1
end
end Go.Proofs.Ytgmgjkafdkgalaa
