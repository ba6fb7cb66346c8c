/- Wheels of the call's own: each call, with what it leaves alone. -/
import Derived.Test.YtgmgjkafdkgalaaWhR
namespace Go.Proofs.Ytgmgjkafdkgalaa
open Go.RowKit Go.Proofs Go.Maps

/-- A Wheel made behind w; the blocks of K are none of its own. -/
def Own6 (w w1 : World) (K : Nat → Prop) (r : Nat) (st : St) : Prop :=
  ∃ O : Nat → Prop, IsWheel w1 O r st ∧ Sm No w w1 ∧ (∀ b, O b → w.heap.size ≤ b) ∧ ∀ b, K b → b < w1.heap.size ∧ ¬ O b
/-- All but K's blocks may have turned. -/
def NotK (K : Nat → Prop) (b : Nat) : Prop := ¬ K b
section
variable {w w1 w2 : World} {K : Nat → Prop} {r : Nat} {st : St}
theorem Own6.sm (h : Own6 w w1 K r st) : Sm No w w1 := by
  obtain ⟨_, _, h2, _⟩ := h
  exact h2
theorem Own6.ok (h : Own6 w w1 K r st) : st.Ok := by
  obtain ⟨_, ⟨_, _, _, _, _, _, _, _, h, _⟩, _⟩ := h
  exact h
theorem Own6.no (h : Own6 w w1 K r st) (hs : Sm No w1 w2) : Own6 w w2 K r st := by
  obtain ⟨O, h1, h2, h3, h4⟩ := h
  exact ⟨O, h1.no hs, h2.trans hs (fun _ _ h => h), h3, fun b hb => ⟨Nat.lt_of_lt_of_le (h4 b hb).1 hs.size, (h4 b hb).2⟩⟩
theorem Own6.less (h : Own6 w w1 K r st) {K2 : Nat → Prop} (hK : ∀ b, K2 b → K b) : Own6 w w1 K2 r st := by
  obtain ⟨O, h1, h2, h3, h4⟩ := h
  exact ⟨O, h1, h2, h3, fun b hb => h4 b (hK b hb)⟩
/-- Something is written that is none of its own. -/
theorem Own6.by (h : Own6 w w1 K r st) {S : Nat → Prop} (hs : Sm S w1 w2) (hS : ∀ b, S b → K b) (hf : ∀ b, S b → w.heap.size ≤ b) : Own6 w w2 K r st := by
  obtain ⟨O, h1, h2, h3, h4⟩ := h
  refine ⟨O, h1.sm hs (fun b hb e => (h4 b (hS b e)).2 hb), ((h2.any _).trans hs (fun b _ e => e)).mono (fun b hb e => by have := hf b e; omega), h3, fun b hb => ⟨Nat.lt_of_lt_of_le (h4 b hb).1 hs.size, (h4 b hb).2⟩⟩
/-- New blocks are none of its own. -/
theorem Own6.more (h : Own6 w w1 K r st) (hs : Sm No w1 w2) {K2 : Nat → Prop} (hK : ∀ b, K2 b → K b ∨ (w1.heap.size ≤ b ∧ b < w2.heap.size)) : Own6 w w2 K2 r st := by
  obtain ⟨O, h1, h2, h3, h4⟩ := h
  have hlt : ∀ b, O b → b < w1.heap.size := by
    obtain ⟨_, _, _, _, _, _, _, _, _, _, h⟩ := h1
    exact h
  refine ⟨O, h1.no hs, h2.trans hs (fun _ _ h => h), h3, fun b hb => ?_⟩
  rcases hK b hb with hb | hb
  · exact ⟨Nat.lt_of_lt_of_le (h4 b hb).1 hs.size, (h4 b hb).2⟩
  · exact ⟨hb.2, fun e => by have := hlt b e; omega⟩
theorem own_of_post {O : Nat → Prop} {st' : St} (hs : Sm No w w1) (hf : ∀ b, O b → w.heap.size ≤ b) (hK : ∀ b, K b → b < w1.heap.size ∧ ¬ O b) (hp : WPost w1 O r st' w2) : Own6 w w2 K r st' ∧ Sm (NotK K) w1 w2 := by
  obtain ⟨O', g1, g2, g3⟩ := hp
  refine ⟨⟨O', g1, ((hs.any _).trans g2 (fun b _ e => e)).mono (fun b hb e => by have := hf b e; omega), fun b hb => ?_, fun b hb => ⟨Nat.lt_of_lt_of_le (hK b hb).1 g2.size, fun e => ?_⟩⟩, g2.mono (fun b _ e hk => (hK b hk).2 e)⟩
  · rcases g3 b hb with e | e
    · exact hf b e
    · exact Nat.le_trans hs.size e
  · rcases g3 b e with e | e
    · exact (hK b hb).2 e
    · have := (hK b hb).1; omega
theorem new6 (now : Nat) (hnow : now ≤ 1099511627776) (hs : Sm No w w1) (hK : ∀ b, K b → b < w1.heap.size) :
    Calls Try.prog 11 #[.int .i64 now] w1 fun e w2 => ∃ r, e = .returned (.tuple #[.pointer (some ⟨r, 0, none⟩), .int .i64 0]) ∧ Own6 w w2 K r (St.new now) ∧ Sm No w1 w2 :=
  (wnew_any w1 now hnow).mono fun e w2 ⟨r, O, he, h1, h2, h3⟩ => ⟨r, he, ⟨O, h1, hs.trans h2 (fun _ _ h => h), fun b hb => Nat.le_trans hs.size (h3 b hb), fun b hb => ⟨Nat.lt_of_lt_of_le (hK b hb) h2.size, fun e => by have := h3 b e; have := hK b hb; omega⟩⟩, h2⟩
theorem add6 (a what : Int) (h : Own6 w w1 K r st) (ho : st.ord ≤ 4000) :
    Calls Try.prog 12 #[.pointer (some ⟨r, 0, none⟩), .int .i64 a, .int .i64 what] w1 fun e w2 => e = .returned (.tuple #[hv (addW st a what).1, .int .i64 (addW st a what).2.1]) ∧ Own6 w w2 K r (addW st a what).2.2 ∧ Sm (NotK K) w1 w2 := by
  obtain ⟨O, h1, h2, h3, h4⟩ := h
  exact (add_any w1 O r st a what h1 ho).mono fun e w2 ⟨he, hp⟩ => ⟨he, own_of_post h2 h3 h4 hp⟩
theorem reset6 (k : Hd) (a : Int) (h : Own6 w w1 K r st) (ok : okH k) (ho : st.ord ≤ 90000) :
    Calls Try.prog 18 #[.pointer (some ⟨r, 0, none⟩), hv k, .int .i64 a] w1 fun e w2 => e = .returned (.int .i64 (resetW st k a).1) ∧ Own6 w w2 K r (resetW st k a).2 ∧ Sm (NotK K) w1 w2 := by
  obtain ⟨O, h1, h2, h3, h4⟩ := h
  exact (reset_any w1 O r st k a h1 ok ho).mono fun e w2 ⟨he, hp⟩ => ⟨he, own_of_post h2 h3 h4 hp⟩
theorem cancel6 (A : Option Addr) (c : Nat) (hs : List Hd) (h : Own6 w w1 K r st) (hA : RowC w1 A (hCells hs)) (hAK : ∀ a, A = some a → K a.block) (hl : hs.length ≤ 1000000) (ok : ∀ h ∈ hs, okH h) (ho : st.ord ≤ 4000) :
    Calls Try.prog 19 #[.pointer (some ⟨r, 0, none⟩), .slice A hs.length c] w1 fun e w2 => e = .returned (.int .i64 (cancelW st hs).1) ∧ Own6 w w2 K r (cancelW st hs).2 ∧ Sm (NotK K) w1 w2 := by
  obtain ⟨O, h1, h2, h3, h4⟩ := h
  exact (cancel_any w1 O r st A c hs h1 hA (fun a e => (h4 _ (hAK a e)).2) hl ok ho).mono fun e w2 ⟨he, g1, g2⟩ => ⟨he, own_of_post h2 h3 h4 ⟨O, g1, g2, fun _ h => Or.inl h⟩⟩
/-- A row of numbers of the call's own. -/
def OwnI (w : World) (B : Nat) (v : Value) (l : List Int) : Prop := w.ownsRow B 3 1 v l.length (l.map fun x => .int .i64 x)
theorem adv6 (n : Int) (h : Own6 w w1 K r st) (ho : st.ord ≤ 4000) :
    Calls Try.prog 13 #[.pointer (some ⟨r, 0, none⟩), .int .i64 n] w1 fun e w2 => ∃ v, e = .returned v ∧ OwnI w2 w1.heap.size v (advW st n).1 ∧ Own6 w w2 (fun b => K b ∨ v.ownBlock = some b) r (advW st n).2 ∧ Sm (NotK K) w1 w2 := by
  obtain ⟨O, h1, h2, h3, h4⟩ := h
  have hlt : ∀ b, O b → b < w1.heap.size := by
    obtain ⟨_, _, _, _, _, _, _, _, _, _, h⟩ := h1
    exact h
  refine (advance_any w1 O r st n h1 ho).mono fun e w2 ⟨v, he, g1, g2, g3⟩ => ⟨v, he, g1, ⟨O, g2, ((h2.any _).trans g3 (fun b _ e => e)).mono (fun b hb e => by have := h3 b e; omega), h3, fun b hb => ?_⟩, g3.mono (fun b _ e hk => (h4 b hk).2 e)⟩
  rcases hb with hb | hb
  · exact ⟨Nat.lt_of_lt_of_le (h4 b hb).1 g3.size, (h4 b hb).2⟩
  · exact ⟨own_row_lt g1 hb, fun e => by have := hlt b e; have := row_base g1 hb; omega⟩
theorem where6 (k : Hd) (h : Own6 w w1 K r st) (ok : okH k) : Calls Try.prog 16 #[.pointer (some ⟨r, 0, none⟩), hv k] w1 fun e w2 => e = .returned (whereV (whereW st k)) ∧ Sm No w1 w2 := by
  obtain ⟨O, h1, _⟩ := h
  exact where_any w1 O r st k h1 ok
theorem next6 (h : Own6 w w1 K r st) : Calls Try.prog 17 #[.pointer (some ⟨r, 0, none⟩)] w1 fun e w2 => e = .returned (.tuple #[.int .i64 (nextW st).1, .bool (nextW st).2]) ∧ Sm No w1 w2 := by
  obtain ⟨O, h1, _⟩ := h
  exact next_any w1 O r st h1
theorem len6 (h : Own6 w w1 K r st) : Calls Try.prog 15 #[.pointer (some ⟨r, 0, none⟩)] w1 fun e w2 => e = .returned (.int .i64 st.L.length) ∧ w2 = w1 := by
  obtain ⟨O, h1, _⟩ := h
  exact wlen_any w1 O r st h1
theorem now6 (h : Own6 w w1 K r st) : Calls Try.prog 27 #[.pointer (some ⟨r, 0, none⟩)] w1 fun e w2 => e = .returned (.int .i64 st.now) ∧ w2 = w1 := by
  obtain ⟨O, h1, _⟩ := h
  exact wnow_any w1 O r st h1
end
end Go.Proofs.Ytgmgjkafdkgalaa
