/- The slab in memory: New, Put. -/
import Derived.Test.YtgmgjkafdkgalaaWhN
import Derived.Lib.Hide
import Derived.Deep.QuietTactic
import Derived.BigQuiet
import Derived.Deep.RegionHeld3
import Derived.WalkKit
namespace Go.Proofs.Ytgmgjkafdkgalaa
open Go.RowKit Go.Proofs Go.Maps

theorem RowC.at {w : World} {A : Option Addr} {cs : List Value} (h : RowC w A cs) {j : Nat} {u : Value} (hj : cs[j]? = some u) : ∃ bb off, A = some ⟨bb, off, none⟩ ∧ bb < w.heap.size ∧ w.cell? ⟨bb, off + j, none⟩ = some u := h j u hj
theorem Bk.no {w w' : World} {g : Nat} {t : TypeId} {cs : Array Value} (h : Bk w g t cs) (hs : Sm No w w') : Bk w' g t cs := h.sm hs (fun h => h)
theorem own_type {B size n : Nat} {t : TypeId} {w : World} {v : Value} {xs : List Value} (h : w.ownsRow B t size v n xs) {g : Nat} (hg : v.ownBlock = some g) : ∃ cur, w.heap[g]? = some (.cells cur t (0, 0)) := by
  rcases h.2 with ⟨rfl, _⟩ | ⟨g', cap, cur, rfl, _, hh, _⟩
  · cases hg
  · have : g' = g := by simpa [Value.ownBlock] using hg
    subst this
    exact ⟨cur, hh⟩
def slCells (l : List Sl) : List Value := l.flatMap fun x => [.int .i64 x.g, .bool x.u, .int .i64 x.v]
theorem row_not_row {w : World} {B B' n n' size size' : Nat} {t t' : TypeId} {v v' : Value} {xs xs' : List Value} (h : w.ownsRow B t size v n xs) (h' : w.ownsRow B' t' size' v' n' xs') (ht : t ≠ t') {g : Nat} (hg : v.ownBlock = some g) : v'.ownBlock ≠ some g := fun e => by
  obtain ⟨c1, e1⟩ := own_type h hg
  obtain ⟨c2, e2⟩ := own_type h' e
  rw [e1] at e2
  injection e2 with e2
  injection e2 with _ e2
  exact ht e2
theorem row_base {w : World} {B n size : Nat} {t : TypeId} {v : Value} {xs : List Value} (h : w.ownsRow B t size v n xs) {g : Nat} (hg : v.ownBlock = some g) : B ≤ g := by
  rcases own_row_form h with ⟨rfl, _⟩ | ⟨g', cap, rfl, hg', hB, _⟩
  · cases hg
  · rw [hg'] at hg; injection hg with hg; omega
theorem slCells_len (l : List Sl) : (slCells l).length = l.length * 3 := by
  induction l with
  | nil => rfl
  | cons x l ih => simp only [slCells, List.flatMap_cons, List.length_append, List.length_cons, List.length_nil] at ih ⊢; omega
theorem slCells_at {l : List Sl} {k : Nat} {x : Sl} (h : l[k]? = some x) : (slCells l)[k * 3]? = some (.int .i64 x.g) ∧ (slCells l)[k * 3 + 1]? = some (.bool x.u) ∧ (slCells l)[k * 3 + 2]? = some (.int .i64 x.v) := by
  induction l generalizing k with
  | nil => simp at h
  | cons y l ih =>
    cases k with
    | zero => simp at h; subst h; exact ⟨rfl, rfl, rfl⟩
    | succ k =>
      obtain ⟨h1, h2, h3⟩ := ih (k := k) (by simpa using h)
      have e1 : (k + 1) * 3 = k * 3 + 3 := by omega
      rw [e1]
      exact ⟨h1, h2, h3⟩
theorem slCells_set {l : List Sl} {k : Nat} (h : k < l.length) (x : Sl) : slCells (l.set k x) = (((slCells l).set (k * 3) (.int .i64 x.g)).set (k * 3 + 1) (.bool x.u)).set (k * 3 + 2) (.int .i64 x.v) := by
  induction l generalizing k with
  | nil => simp at h
  | cons y l ih =>
    cases k with
    | zero => rfl
    | succ k =>
      have hk : k < l.length := by simpa using h
      have e1 : (k + 1) * 3 = k * 3 + 3 := by omega
      rw [e1]
      show slCells (y :: l.set k x) = _
      show [Value.int .i64 y.g, .bool y.u, .int .i64 y.v] ++ slCells (l.set k x) = _
      rw [ih hk]
      rfl
theorem infoSl : (Try.prog.info? 95).map (fun i => (i.zero, i.size, i.bytes)) = some (some (.agg #[.int .i64 0, .bool false, .int .i64 0]), 3, 24) := by kernel_rfl

/-- A Slab with the slots l, n of them in use; its blocks are of O. -/
def IsSlab (w : World) (O : Nat → Prop) (s : Nat) (l : List Sl) (n : Nat) : Prop :=
  ∃ v, Bk w s 93 #[.int .i64 4096, v, .int .i64 n] ∧ w.ownsRow 0 95 3 v l.length (slCells l) ∧ O s ∧ (∀ g, v.ownBlock = some g → O g) ∧ ∀ b, O b → b < w.heap.size
theorem IsSlab.sm {S O : Nat → Prop} {w w' : World} {s n : Nat} {l : List Sl} (h : IsSlab w O s l n) (hs : Sm S w w') (hS : ∀ b, O b → ¬ S b) : IsSlab w' O s l n := by
  obtain ⟨v, h1, h2, h3, h4, h5⟩ := h
  exact ⟨v, h1.sm hs (hS s h3), own_row_sm h2 hs (fun g hg => hS g (h4 g hg)), h3, h4, fun b hb => Nat.lt_of_lt_of_le (h5 b hb) hs.size⟩
theorem IsSlab.no {O : Nat → Prop} {w w' : World} {s n : Nat} {l : List Sl} (h : IsSlab w O s l n) (hs : Sm No w w') : IsSlab w' O s l n := h.sm hs (fun _ _ h => h)

set_option maxRecDepth 100000 in
theorem slabNew_any (w : World) : Calls Try.prog 30 #[.int .i64 4096] w fun e w' => e = .returned (.tuple #[.pointer (some ⟨w.heap.size, 0, none⟩), .int .i64 0]) ∧ IsSlab w' (fun b => b = w.heap.size) w.heap.size [] 0 ∧ Sm No w w' ∧ w'.heap.size = w.heap.size + 1 := by
  go_enter Try.func30, Try.ntmps30
  go_wp2_with fail
  go_ret2
  refine ⟨rfl, ⟨_, Bk.new w _ _, World.ownsRow_nil _ _ _ _, rfl, (fun g hg => by cases hg), fun b hb => by subst hb; simp⟩, (Sm.refl _ _).alloc _, by simp⟩

theorem own_row_lt {B size n : Nat} {t : TypeId} {w : World} {v : Value} {xs : List Value} (h : w.ownsRow B t size v n xs) {g : Nat} (hg : v.ownBlock = some g) : g < w.heap.size := by
  rcases own_row_form h with ⟨rfl, _, _⟩ | ⟨g', cap, rfl, hg', _, hb, _⟩
  · cases hg
  · rw [hg'] at hg
    injection hg with hg
    omega
theorem own_row_pos {B size n : Nat} {t : TypeId} {w : World} {v : Value} {xs : List Value} (h : w.ownsRow B t size v (n + 1) xs) : ∃ g cap, v = .slice (some ⟨g, 0, none⟩) (n + 1) cap ∧ g < w.heap.size ∧ n + 1 ≤ cap := by
  rcases own_row_form h with ⟨_, h0, _⟩ | ⟨g, cap, rfl, _, _, hb, hc, _⟩
  · omega
  · exact ⟨g, cap, rfl, hb, hc⟩
theorem slCells_snoc (l : List Sl) (x : Sl) : slCells (l ++ [x]) = slCells l ++ [.int .i64 x.g, .bool x.u, .int .i64 x.v] := by simp [slCells]
theorem slot_set {w : World} {bb c : Nat} {l : List Sl} (h : w.ownsRow 0 95 3 (.slice (some ⟨bb, 0, none⟩) l.length c) l.length (slCells l)) {i : Nat} (hi : i < l.length) (x : Sl) {w' : World}
    (e : (((w.setCell ⟨bb, i * 3, none⟩ (.int .i64 x.g)).setCell ⟨bb, i * 3 + 1, none⟩ (.bool x.u)).setCell ⟨bb, i * 3 + 2, none⟩ (.int .i64 x.v)).drew = w') :
    w'.ownsRow 0 95 3 (.slice (some ⟨bb, 0, none⟩) l.length c) l.length (slCells (l.set i x)) ∧ Sm (fun b => b = bb) w w' := by
  subst e
  refine ⟨?_, ((((Sm.refl _ w).set1 _ _).set1 _ _).set1 _ _).drew⟩
  rw [slCells_set hi]
  exact (((h.stored _ _).1.stored _ _).1.stored _ _).1
theorem row_not_bk {B size n : Nat} {t t2 : TypeId} {w : World} {v : Value} {xs : List Value} {s : Nat} {cs : Array Value} (h : w.ownsRow B t size v n xs) (h2 : Bk w s t2 cs) (ht : t ≠ t2) : v.ownBlock ≠ some s := fun e => by
  obtain ⟨cur, h6⟩ := own_type h e
  unfold Bk at h2
  rw [h6] at h2
  injection h2 with h2
  injection h2 with _ h2
  exact ht h2
theorem row_at {B size n c : Nat} {t : TypeId} {w : World} {bb : Nat} {xs : List Value} (h : w.ownsRow B t size (.slice (some ⟨bb, 0, none⟩) n c) n xs) {j : Nat} {u : Value} (hj : xs[j]? = some u) : w.cell? ⟨bb, j, none⟩ = some u := by
  have := World.ownsRow.cells h (g := bb) rfl j u hj
  rwa [show (⟨bb, 0, none⟩ : Addr).add j = ⟨bb, j, none⟩ by unfold Addr.add; split <;> simp_all] at this
theorem put_done {w W2 : World} {O : Nat → Prop} {s n rb : Nat} {l2 : List Sl} {v : Value} (hO : ∀ b, O b → b < w.heap.size) (hOs : O s) (hrb : rb = w.heap.size) (hlt : rb < W2.heap.size)
    (hs : Sm (fun b => O b ∨ w.heap.size ≤ b) w W2) (hr : W2.ownsRow 0 95 3 v l2.length (slCells l2)) (hb : Bk W2 s 93 #[.int .i64 4096, v, .int .i64 n]) (hv : ∀ g, v.ownBlock = some g → (O g ∨ w.heap.size ≤ g) ∧ g ≠ rb) (x y : Value) {W3 : World}
    (e : ((W2.setCell ⟨s, 2, none⟩ (.int .i64 ((n : Int) + 1))).setCell ⟨rb, 0, none⟩ x).setCell ⟨rb, 1, none⟩ y = W3) :
    ∃ O' : Nat → Prop, IsSlab W3 O' s l2 (n + 1) ∧ Sm O w W3 ∧ ∀ b, O' b → O b ∨ w.heap.size ≤ b := by
  have hsz := hO s hOs
  have h3 : Sm (fun b => b = s ∨ b = rb) W2 W3 := by
    rw [← e]
    exact (((Sm.refl _ W2).setS (Or.inl rfl) _ _).setS (Or.inr rfl) _ _).setS (Or.inr rfl) _ _
  refine ⟨fun b => O b ∨ (w.heap.size ≤ b ∧ b < W3.heap.size), ⟨v, ?_, own_row_sm hr h3 (fun g hg hh => ?_), Or.inl hOs, fun g hg => ?_, fun b hb => ?_⟩, ?_, fun b hb => hb.imp id (fun h => h.1)⟩
  · have h4 := ((hb.set 2 (.int .i64 ((n : Int) + 1))).far (p := ⟨rb, 0, none⟩) (by show s ≠ rb; omega) x).far (p := ⟨rb, 1, none⟩) (by show s ≠ rb; omega) y
    rw [e] at h4
    refine h4.eq ?_
    simp
  · rcases hh with rfl | rfl
    · exact row_not_bk hr hb (by decide) hg
    · exact (hv _ hg).2 rfl
  · have h5 := (hv g hg).1
    have h6 := Nat.lt_of_lt_of_le (own_row_lt hr hg) h3.size
    exact h5.imp id (fun h => ⟨h, h6⟩)
  · have h5 := hs.size
    have h6 := h3.size
    rcases hb with hb | hb
    · have := hO b hb; omega
    · exact hb.2
  · exact (hs.trans h3 (fun b _ h => by rcases h with rfl | rfl; exact Or.inl hOs; exact Or.inr (by omega))).mono (fun b hb h => h.elim id (fun h => by omega))
def PutRel (l : List Sl) (i : Value) : Prop := ∃ k : Nat, k ≤ freeI l ∧ i = .int .i64 k
set_option maxRecDepth 100000 in
set_option maxHeartbeats 4000000 in
theorem put_any (w : World) (O : Nat → Prop) (s n : Nat) (l : List Sl) (v : Int) (h : IsSlab w O s l n) (hn : n < 4096) (hl : l.length ≤ 100000) (hg : ∀ x ∈ l, x.g ≤ 100000) :
    Calls Try.prog 31 #[.pointer (some ⟨s, 0, none⟩), .int .i64 v] w fun e w' => e = .returned (.tuple #[hv (newH l), .int .i64 0]) ∧ ∃ O' : Nat → Prop, IsSlab w' O' s (putB l v) (n + 1) ∧ Sm O w w' ∧ ∀ b, O' b → O b ∨ w.heap.size ≤ b := by
  obtain ⟨sv, hb, hr, hOs, hOv, hO⟩ := h
  have hfl := freeI_le l
  obtain ⟨A, c, rfl, hR, hc, hA0⟩ := own_rowC hr
  have c0 := hb.at 0 (v := .int .i64 4096) rfl
  have c1 := hb.at 1 (v := .slice A l.length c) rfl
  have c2 := hb.at 2 (v := .int .i64 n) rfl
  have hslt := hb.lt
  have H := Lib.hid (And.intro hb (And.intro hr (And.intro hOs (And.intro hOv (And.intro hO hR)))))
  have HG := Lib.hid hg
  have hne : decide ((n : Int) = 4096) = false := by simp; omega
  have hne2 : ((n : Int) == 4096) = false := by simp; omega
  clear hb hr hOs hOv hO hR hg hA0
  go_enter Try.func31, Try.ntmps31
  go_wp2_with fail
  go_quiet (fail)
  go_wp2_with fail
  have hs0 : Sm No w ((w.alloc (.cells #[.int .i64 0, .int .i64 0] 29)).drewN nq) := ((Sm.refl No w).alloc _).drewN nq
  have hrb : Bk ((w.alloc (.cells #[.int .i64 0, .int .i64 0] 29)).drewN nq) w.heap.size 29 #[.int .i64 0, .int .i64 0] := (Bk.new w _ _).drewN nq
  obtain ⟨W, hW⟩ : ∃ W, (w.alloc (.cells #[.int .i64 0, .int .i64 0] 29)).drewN nq = W := ⟨_, rfl⟩
  rw [hW] at hs0 hrb ⊢
  clear hW
  obtain ⟨rb, hrbe⟩ : ∃ rb, w.heap.size = rb := ⟨_, rfl⟩
  rw [hrbe] at hrb ⊢
  have H0 := Lib.hid (And.intro hs0 (And.intro hrb hrbe))
  clear c0 c1 c2 hslt
  have hslt := Nat.lt_of_lt_of_le H.out.1.lt hs0.size
  have c0 := (H.out.1.no hs0).at 0 (v := .int .i64 4096) rfl
  have c1 := (H.out.1.no hs0).at 1 (v := .slice A l.length c) rfl
  have c2 := (H.out.1.no hs0).at 2 (v := .int .i64 n) rfl
  clear hs0 hrb hrbe
  go_loop [6] (fun i => PutRel l i) (fun i => l.length - (intOf i).toNat)
  case atStart => exact ⟨0, Nat.zero_le _, rfl⟩
  case round =>
    obtain ⟨k, hk, rfl⟩ := hrel
    by_cases hlt : k < freeI l
    · obtain ⟨x, hx, hu⟩ := freeI_used l k hlt
      have k1 : (0 : Int) ≤ (k : Int) := by omega
      have k2 : (k : Int) < (l.length : Int) := by omega
      obtain ⟨bb, off, hA, _, r1⟩ := (H.out.2.2.2.2.2.no H0.out.1).at (slCells_at hx).2.1
      rw [hu, ← Nat.add_assoc] at r1
      subst hA
      clear hx hu
      go_wp2_with fail
      go_round
      case rel => exact ⟨k + 1, by omega, by go_num⟩
      case measure => simp [intOf]; omega
    · obtain rfl : k = freeI l := by omega
      obtain ⟨i, hi⟩ : ∃ i, freeI l = i := ⟨_, rfl⟩
      rw [hi] at hfl ⊢
      have HI := Lib.hid hi
      by_cases hlen : i < l.length
      · rw [← hi] at hlen
        obtain ⟨x, hx, hu⟩ := freeI_free l hlen
        rw [hi] at hx hlen
        have k1 : (0 : Int) ≤ (i : Int) := by omega
        have k2 : (i : Int) < (l.length : Int) := by omega
        obtain ⟨e0, e1, e2⟩ := slCells_at hx
        obtain ⟨bb, off, hA, _, r0⟩ := (H.out.2.2.2.2.2.no H0.out.1).at e0
        obtain ⟨_, _, hA1, _, r1⟩ := (H.out.2.2.2.2.2.no H0.out.1).at e1
        obtain ⟨_, _, hA2, _, r2⟩ := (H.out.2.2.2.2.2.no H0.out.1).at e2
        subst hA
        injection hA1 with hA1; injection hA1 with q1 q2; subst q1 q2
        injection hA2 with hA2; injection hA2 with q1 q2; subst q1 q2
        rw [hu, ← Nat.add_assoc] at r1
        rw [← Nat.add_assoc] at r2
        have h3 : ((i : Int) == (l.length : Int)) = false := by simp; omega
        have h4 : decide (i = l.length) = false := by simp; omega
        obtain rfl : off = 0 := by
          rcases own_row_form H.out.2.1 with ⟨hv, _⟩ | ⟨g, cap, hv, _⟩
          · injection hv with hv; cases hv
          · injection hv with hv; injection hv with hv; injection hv with _ hv
        have hob : O bb := H.out.2.2.2.1 bb rfl
        have hbs : bb ≠ s := fun e => row_not_bk H.out.2.1 H.out.1 (by decide) (by rw [← e]; rfl)
        rw [Nat.zero_add] at r0 r1 r2
        have hbl : bb < W.heap.size := Nat.lt_of_lt_of_le (H.out.2.2.2.2.1 bb hob) H0.out.1.size
        have f0 : ∀ j, W.frozen? ⟨bb, j, none⟩ = false := fun j => by
          have := World.ownsRow.frozenAt (own_row_sm H.out.2.1 H0.out.1 (fun _ _ h => h)) j
          exact this
        have hxg := HG.out x (List.mem_of_getElem? hx)
        obtain ⟨xg, hxge⟩ : ∃ xg, x.g = xg := ⟨_, rfl⟩
        rw [hxge] at r0 hxg
        have hpb : putB l v = l.set i ⟨xg + 1, true, v⟩ := by unfold putB; rw [hi, if_pos hlen]; simp [genAt, hx, hxge]
        have hnh : newH l = ⟨(i : Int), ((xg + 1 : Nat) : Int)⟩ := by unfold newH; rw [hi]; simp [genAt, hx, hxge]
        have hrbl := Nat.lt_of_lt_of_eq H0.out.2.1.lt rfl
        have hrbb : rb ≠ bb := fun e => by have := H.out.2.2.2.2.1 bb hob; have := H0.out.2.2; omega
        have hrbs : rb ≠ s := fun e => by have := H.out.2.2.2.2.1 s H.out.2.2.1; have := H0.out.2.2; omega
        have HX := Lib.hid (And.intro hpb (And.intro hnh hob))
        clear hi hlt hk hx hu e0 e1 e2 hob hpb hnh hxge
        go_wp2_with fail
        go_region
        have e64 : ((xg : Int) + 1) = ((xg + 1 : Nat) : Int) := by omega
        rw [e64]
        obtain ⟨W2, hW2⟩ : ∃ W2, (((W.setCell ⟨bb, i * 3, none⟩ (.int .i64 ((xg + 1 : Nat) : Int))).setCell ⟨bb, i * 3 + 1, none⟩ (.bool true)).setCell ⟨bb, i * 3 + 2, none⟩ (.int .i64 v)).drew = W2 := ⟨_, rfl⟩
        rw [hW2]
        obtain ⟨g1, g2⟩ := slot_set (own_row_sm H.out.2.1 H0.out.1 (fun _ _ h => h)) hlen ⟨xg + 1, true, v⟩ hW2
        have b2 := ((H.out.1.no H0.out.1).sm g2 (fun e => hbs e.symm))
        have rb2 := H0.out.2.1.sm g2 (fun e => hrbb e)
        have HW := Lib.hid (And.intro g1 (And.intro g2 (And.intro b2 rb2)))
        clear hW2 c0 c1 c2 r0 r1 r2 f0 e64
        have c1 := b2.at 1 (v := .slice (some ⟨bb, 0, none⟩) l.length c) rfl
        have c2 := b2.at 2 (v := .int .i64 n) rfl
        have r0 := row_at g1 (slCells_at (x := ⟨xg + 1, true, v⟩) (k := i) (by simp [hlen])).1
        have hslt2 := b2.lt
        have hrlt2 := rb2.lt
        have hbl2 := Nat.lt_of_lt_of_le hbl g2.size
        have hfr := b2.fz 2
        have hfr2 := rb2.fz 0
        have hfr3 := rb2.fz 1
        have d0 := rb2.at 0 (v := .int .i64 0) rfl
        have d1 := rb2.at 1 (v := .int .i64 0) rfl
        clear g1 g2 b2 rb2
        dsimp only at r0
        go_wp2_with fail
        refine bodyPost_ret (v := .tuple #[.agg #[.int .i64 i, .int .i64 ((xg : Int) + 1)], .int .i64 0]) (by simp [results, Try.results31, go_sem, d0, d1]) rfl ⟨by rw [HX.out.2.1]; rfl, ?_⟩
        rw [HX.out.1]
        exact put_done H.out.2.2.2.2.1 H.out.2.2.1 H0.out.2.2.symm hrlt2 ((H0.out.1.any _).trans HW.out.2.1 (fun b _ e => Or.inl (by rw [e]; exact HX.out.2.2))) (by rw [List.length_set]; exact HW.out.1) HW.out.2.2.1 (fun g hg => by injection hg with hg; subst hg; exact ⟨Or.inl HX.out.2.2, hrbb.symm⟩) _ _ rfl
      · obtain rfl : i = l.length := by omega
        have h3 : ((l.length : Int) == (l.length : Int)) = true := by simp
        have hown := own_row_sm H.out.2.1 H0.out.1 (fun _ _ h => h)
        have ha := (Sm.refl No W).alloc (.cells #[.int .i64 0, .bool false, .int .i64 0] 95)
        have hsb := (H.out.1.no H0.out.1).no ha
        have hrb := H0.out.2.1.no ha
        have hro := own_row_sm hown ha (fun _ _ h => h)
        have HO := Lib.hid (And.intro hro (And.intro hsb (And.intro hrb (And.intro ha hown))))
        have hpost : ∀ (w5 : World) (g5 cap5 : Nat), w5.ownsRow 0 95 3 (.slice (some ⟨g5, 0, none⟩) (l.length + 1) cap5) (l.length + 1) (slCells l ++ [.int .i64 0, .bool false, .int .i64 0]) → Sm (fun b => (Value.slice A l.length c).ownBlock = some b) (W.alloc (.cells #[.int .i64 0, .bool false, .int .i64 0] 95)) w5 →
            Bk w5 s 93 #[.int .i64 4096, .slice A l.length c, .int .i64 n] ∧ Bk w5 rb 29 #[.int .i64 0, .int .i64 0] ∧ g5 ≠ s ∧ g5 ≠ rb ∧ w5.cell? ⟨g5, l.length * 3, none⟩ = some (.int .i64 0) ∧ w5.cell? ⟨g5, l.length * 3 + 1, none⟩ = some (.bool false) ∧ w5.cell? ⟨g5, l.length * 3 + 2, none⟩ = some (.int .i64 0) := by
          intro w5 g5 cap5 k1 k2
          have e1 := HO.out.2.1.sm k2 (row_not_bk HO.out.1 HO.out.2.1 (by decide))
          have e2 := HO.out.2.2.1.sm k2 (row_not_bk HO.out.1 HO.out.2.2.1 (by decide))
          have hx : (slCells l).length = l.length * 3 := slCells_len l
          refine ⟨e1, e2, fun e => row_not_bk k1 e1 (by decide) (by rw [← e]; rfl), fun e => row_not_bk k1 e2 (by decide) (by rw [← e]; rfl), row_at k1 ?_, row_at k1 ?_, row_at k1 ?_⟩
          · rw [List.getElem?_append_right (by omega), hx, Nat.sub_self]; rfl
          · rw [List.getElem?_append_right (by omega), hx, Nat.add_sub_cancel_left]; rfl
          · rw [List.getElem?_append_right (by omega), hx, Nat.add_sub_cancel_left]; rfl
        have HP := Lib.hid hpost
        clear hown hi hlt hk hlen ha hsb hrb hro hpost
        go_wp2_with (refine wpList_push rfl (.tmp 52) (.tmp 54) 91 95 rfl Try.underlying91 _ 3 24 infoSl rfl (by decide) (by decide) 0 l.length _ (slCells l) rfl (HO.out.1) W.heap.size #[.int .i64 0, .bool false, .int .i64 0] rfl (Bk.new W _ _) rfl (by simp [Value.oneCell']) (by omega) (by omega) ?_; intro v5 w5 hown5 hs5 hv5; obtain ⟨g5, cap5, rfl, hg5, hc5⟩ := own_row_pos hown5; obtain ⟨b5, rb5, hgs, hgr, r0, r1, r2⟩ := HP.out w5 g5 cap5 hown5 hs5; have hslt5 := b5.lt; have hrlt5 := rb5.lt; have f5 := b5.fz 1; have c1 := b5.at 1 (v := .slice A l.length c) rfl; have H5 := Lib.hid (And.intro hown5 (And.intro hs5 (And.intro hv5 (And.intro b5 rb5)))); clear hown5 hs5 hv5 b5 rb5)
        obtain ⟨W3, hW3⟩ : ∃ W3, w5.setCell ⟨s, 1, none⟩ (.slice (some ⟨g5, 0, none⟩) (l.length + 1) cap5) = W3 := ⟨_, rfl⟩
        rw [hW3]
        have s3 : Sm (fun b => b = s) w5 W3 := by rw [← hW3]; exact (Sm.refl _ w5).set1 _ _
        have b3 : Bk W3 s 93 #[.int .i64 4096, .slice (some ⟨g5, 0, none⟩) (l.length + 1) cap5, .int .i64 n] := by rw [← hW3]; exact (H5.out.2.2.2.1.set 1 _).eq rfl
        have rb3 := H5.out.2.2.2.2.sm s3 (fun e => by have := H.out.2.2.2.2.1 s H.out.2.2.1; have := H0.out.2.2; omega)
        have o3 := own_row_sm H5.out.1 s3 (fun b e e2 => by injection e with e; exact hgs (e.trans e2))
        have o3' : W3.ownsRow 0 95 3 (.slice (some ⟨g5, 0, none⟩) (l ++ [(⟨0, false, 0⟩ : Sl)]).length cap5) (l ++ [(⟨0, false, 0⟩ : Sl)]).length (slCells (l ++ [(⟨0, false, 0⟩ : Sl)])) := by
          rw [slCells_snoc, List.length_append]; exact o3
        have r0 := row_at o3' (slCells_at (k := l.length) (x := ⟨0, false, 0⟩) (by simp)).1
        have r1 := row_at o3' (slCells_at (k := l.length) (x := ⟨0, false, 0⟩) (by simp)).2.1
        have r2 := row_at o3' (slCells_at (k := l.length) (x := ⟨0, false, 0⟩) (by simp)).2.2
        dsimp only at r0 r1 r2
        have f0 := fun j => World.ownsRow.frozenAt o3' j
        have c1 := b3.at 1 (v := .slice (some ⟨g5, 0, none⟩) (l.length + 1) cap5) rfl
        have hslt3 := b3.lt
        have hg3 : g5 < W3.heap.size := Nat.lt_of_lt_of_le hg5 s3.size
        have k1 : (0 : Int) ≤ (l.length : Int) := by omega
        have k2 : (l.length : Int) < ((l.length + 1 : Nat) : Int) := by omega
        have H3 := Lib.hid (And.intro s3 (And.intro b3 (And.intro rb3 o3')))
        clear hW3 s3 b3 rb3 o3 o3' c0 c2 hslt hslt5 hrlt5 hg5
        go_wp2_with fail
        go_region
        obtain ⟨W2, hW2⟩ : ∃ W2, (((W3.setCell ⟨g5, l.length * 3, none⟩ (.int .i64 1)).setCell ⟨g5, l.length * 3 + 1, none⟩ (.bool true)).setCell ⟨g5, l.length * 3 + 2, none⟩ (.int .i64 v)).drew = W2 := ⟨_, rfl⟩
        rw [hW2]
        obtain ⟨q1, q2⟩ := slot_set (i := l.length) H3.out.2.2.2 (by simp) ⟨1, true, v⟩ hW2
        have b2 := H3.out.2.1.sm q2 (fun e => hgs e.symm)
        have rb2 := H3.out.2.2.1.sm q2 (fun e => hgr e.symm)
        have HW := Lib.hid (And.intro q1 (And.intro q2 (And.intro b2 rb2)))
        have c1 := b2.at 1 (v := .slice (some ⟨g5, 0, none⟩) (l.length + 1) cap5) rfl
        have c2 := b2.at 2 (v := .int .i64 n) rfl
        have r0 := row_at q1 (slCells_at (x := (⟨1, true, v⟩ : Sl)) (k := l.length) (by simp)).1
        have hslt2 := b2.lt
        have hrlt2 := rb2.lt
        have hbl2 := Nat.lt_of_lt_of_le hg3 q2.size
        have hfr := b2.fz 2
        have hfr2 := rb2.fz 0
        have hfr3 := rb2.fz 1
        have d0 := rb2.at 0 (v := .int .i64 0) rfl
        have d1 := rb2.at 1 (v := .int .i64 0) rfl
        have hrbs : rb ≠ s := fun e => by have := H.out.2.2.2.2.1 s H.out.2.2.1; have := H0.out.2.2; omega
        clear hW2 q1 q2 b2 rb2 f0 r1 r2
        dsimp only at r0
        go_wp2_with fail
        have hpb : putB l v = l ++ [(⟨1, true, v⟩ : Sl)] := by unfold putB; rw [HI.out, if_neg (by omega)]
        have hnh : newH l = ⟨(l.length : Int), 1⟩ := by unfold newH; rw [HI.out]; simp [genAt]
        have hset : (l ++ [(⟨0, false, 0⟩ : Sl)]).set l.length ⟨1, true, v⟩ = l ++ [(⟨1, true, v⟩ : Sl)] := by simp
        have hg5O : (O g5 ∨ w.heap.size ≤ g5) := by
          rcases H5.out.2.2.1 with e | e
          · exact Or.inl (H.out.2.2.2.1 g5 (show (Value.slice A l.length c).ownBlock = some g5 from e.symm))
          · injection e with e
            have := H0.out.1.size
            simp at e
            exact Or.inr (by omega)
        refine bodyPost_ret (v := .tuple #[.agg #[.int .i64 l.length, .int .i64 1], .int .i64 0]) (by simp [results, Try.results31, go_sem, d0, d1]) rfl ⟨by rw [hnh]; rfl, ?_⟩
        rw [hpb]
        have q1 := HW.out.1
        rw [hset] at q1
        have e1 : (l ++ [(⟨0, false, 0⟩ : Sl)]).length = (l ++ [(⟨1, true, v⟩ : Sl)]).length := by simp
        rw [e1] at q1
        have e2 : (l ++ [(⟨1, true, v⟩ : Sl)]).length = l.length + 1 := by simp
        refine put_done H.out.2.2.2.2.1 H.out.2.2.1 H0.out.2.2.symm hrlt2 ?_ q1 (by rw [e2]; exact HW.out.2.2.1) (fun g hg => by injection hg with hg; subst hg; exact ⟨hg5O, hgr⟩) _ _ rfl
        have t1 := H0.out.1.trans HO.out.2.2.2.1 (fun _ _ h => h)
        have t2 : Sm (fun b => O b ∨ w.heap.size ≤ b) w w5 := (t1.any _).trans H5.out.2.1 (fun b _ e => Or.inl (H.out.2.2.2.1 b e))
        have t3 := t2.trans H3.out.1 (fun b _ e => Or.inl (by rw [e]; exact H.out.2.2.1))
        exact t3.trans HW.out.2.1 (fun b _ e => by rw [e]; exact hg5O)
end Go.Proofs.Ytgmgjkafdkgalaa
