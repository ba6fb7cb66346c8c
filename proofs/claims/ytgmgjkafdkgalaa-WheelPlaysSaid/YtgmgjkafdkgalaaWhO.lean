/- Cancel. -/
import Derived.Test.YtgmgjkafdkgalaaWhL
import Derived.IntWalk
namespace Go.Proofs.Ytgmgjkafdkgalaa
open Go.RowKit Go.Proofs Go.Maps

theorem rowC_of_bk {w : World} {g : Nat} {t : TypeId} {cs : Array Value} (h : Bk w g t cs) : RowC w (some ⟨g, 0, none⟩) cs.toList := by
  intro j u hj
  refine ⟨g, 0, rfl, h.lt, ?_⟩
  rw [Nat.zero_add]
  exact h.at j (by simpa using hj)
def hCells (hs : List Hd) : List Value := hs.flatMap fun h => [.int .i64 h.slot, .int .i64 h.gen]
theorem hCells_at {hs : List Hd} {k : Nat} {h : Hd} (hk : hs[k]? = some h) : (hCells hs)[k * 2]? = some (.int .i64 h.slot) ∧ (hCells hs)[k * 2 + 1]? = some (.int .i64 h.gen) := by
  induction hs generalizing k with
  | nil => simp at hk
  | cons y l ih =>
    cases k with
    | zero => simp at hk; subst hk; exact ⟨rfl, rfl⟩
    | succ k =>
      obtain ⟨h1, h2⟩ := ih (k := k) (by simpa using hk)
      have e1 : (k + 1) * 2 = k * 2 + 2 := by omega
      rw [e1]
      exact ⟨h1, h2⟩
section
variable {w w' : World} {Os : Nat → Prop} {r s tm now ord n : Nat} {mb : Nat → Nat} {sb : List Sl} {x : Tb} {T U R : List Tb}
theorem IsW.dropTb (h : IsW w Os r s tm mb now ord n sb (x :: R) U) (hm : MapL w' tm (delL (keysT (x :: R)) x.t.h)) (hs : Sm (fun b => b = tm) w w') : IsW w' Os r s tm mb now ord n sb R U where
  bk := h.bk.sm hs (fun e => h.tm_r e.symm)
  slab := h.slab.sm hs (fun b hb e => (h.so b hb).2.1 e)
  tms := by
    refine (show delL (keysT (x :: R)) x.t.h = keysT R from ?_) ▸ hm
    unfold delL keysT
    rw [List.map_cons, List.filter_cons_of_neg (by simp), List.filter_eq_self]
    intro q hq
    obtain ⟨y, hy, rfl⟩ := List.mem_map.1 hq
    simpa using h.hds y hy
  ls := fun j hj => (h.ls j hj).sm hs (fun e => h.tmb j hj e)
  tb := fun y hy => (h.tb y (by simp [hy])).sm hs (fun e => h.tm_b (x := y) (by simp [hy]) e.symm)
  nd := by
    have := h.nd
    rw [List.map_cons, List.nodup_cons] at this
    exact this.2
  inj := h.inj
  tmb := h.tmb
  so := fun b hb => ⟨(h.so b hb).1, (h.so b hb).2.1, (h.so b hb).2.2.1, fun y hy => (h.so b hb).2.2.2 y (by simp [hy])⟩
end
theorem timersDrop {w : World} {b : Nat} {l : List (Hd × Value)} (h : MapL w b l) {k : Hd} (o : okH k) : ∃ w', (Builtin.delete_ #[68, 29] 0 #[.map (some b), .agg #[.int .i64 k.slot, .int .i64 k.gen]]).run Try.prog w = .ok (.tuple #[]) w' ∧ MapL w' b (delL l k) ∧ Sm (fun g => g = b) w w' :=
  h.drop Try.underlying68 o 0
theorem take_yes (w : World) (O : Nat → Prop) (s n : Nat) (l : List Sl) (h : Hd) (hS : IsSlab w O s l (n + 1)) (hb off c : Nat) (hA : RowC w (some ⟨hb, off, none⟩) [.int .i64 h.slot, .int .i64 h.gen]) (hB : isB l h = true) (hn2 : n + 1 ≤ 4096) :
    Calls Try.prog 35 #[.pointer (some ⟨s, 0, none⟩), .slice (some ⟨hb, off, none⟩) 1 c] w fun e w' => e = .returned (.int .i64 1) ∧ IsSlab w' O s (takeB l h) n ∧ Sm O w w' := by
  have := take_any w O s (n + 1) l h hS hb off c hA (fun _ => by omega) hn2
  unfold TakePost at this
  simp only [hB, if_true, Nat.add_sub_cancel] at this
  exact this
theorem drop_done {w5 : World} {O Os : Nat → Prop} {r s tm : Nat} {mb : Nat → Nat} {st : St} {T R : List Tb} {x : Tb} {hd : Hd} (hI : IsW w5 Os r s tm mb st.now st.ord R.length (takeB st.sb hd) R R) (hhd : x.t.h = hd) (h2 : (T.map (·.t)).Perm st.L) (h3 : ∀ x ∈ T, x.p = placeL st.now x.t.a) (h4 : st.Ok)
    (hbO : ∀ b, blW Os r tm mb (x :: R) b → O b) (hR : T.Perm (x :: R)) (hn : ∀ y ∈ R, y.t.h ≠ x.t.h) (hlt : ∀ b, O b → b < w5.heap.size) : IsWheel w5 O r (cancel1 st x.t.h) := by
  refine ⟨Os, s, tm, mb, R, ?_, ?_, fun y hy => h3 y (hR.mem_iff.2 (by simp [hy])), cancel1_ok h4 _, fun b hb => hbO b (blW_mono hb (fun y hy => ⟨y, by simp [hy], rfl⟩)), hlt⟩
  · rw [← hhd] at hI
    exact hI
  · have p1 : st.L.Perm (x.t :: R.map (·.t)) := h2.symm.trans (hR.map _)
    have p2 : (dropT st.L x.t.h).Perm (dropT (x.t :: R.map (·.t)) x.t.h) := p1.filter _
    have e : dropT (x.t :: R.map (·.t)) x.t.h = R.map (·.t) := by
      unfold dropT
      rw [List.filter_cons_of_neg (by simp), List.filter_eq_self]
      intro t ht
      obtain ⟨y, hy, rfl⟩ := List.mem_map.1 ht
      simpa using hn y hy
    rw [e] at p2
    exact p2.symm
def CanRel (w : World) (O : Nat → Prop) (r : Nat) (st : St) (hs : List Hd) (nv iv : Value) (wr : World) : Prop :=
  ∃ (k c : Nat) (stk : St), k ≤ hs.length ∧ c ≤ k ∧ iv = .int .i64 k ∧ nv = .int .i64 c ∧ IsWheel wr O r stk ∧ Sm O w wr ∧ cancelW st hs = ((c : Int) + (cancelW stk (hs.drop k)).1, (cancelW stk (hs.drop k)).2) ∧ stk.ord = st.ord
theorem cancel_at {hs : List Hd} {k : Nat} {h : Hd} (stk : St) (hk : hs[k]? = some h) : cancelW stk (hs.drop k) = if hasT stk h = true then ((cancelW (cancel1 stk h) (hs.drop (k + 1))).1 + 1, (cancelW (cancel1 stk h) (hs.drop (k + 1))).2) else cancelW stk (hs.drop (k + 1)) := by
  have hlt : k < hs.length := by
    rcases Nat.lt_or_ge k hs.length with g | g
    · exact g
    · rw [List.getElem?_eq_none g] at hk; cases hk
  have e : hs[k] = h := by rw [List.getElem?_eq_getElem hlt] at hk; injection hk
  rw [List.drop_eq_getElem_cons hlt, e]
  rfl
set_option maxRecDepth 100000 in
set_option maxHeartbeats 4000000 in
theorem cancel_any (w : World) (O : Nat → Prop) (r : Nat) (st : St) (A : Option Addr) (c : Nat) (hs : List Hd) (hW : IsWheel w O r st) (hA : RowC w A (hCells hs)) (hAO : ∀ a, A = some a → ¬ O a.block) (hl : hs.length ≤ 1000000) (ok : ∀ h ∈ hs, okH h) (hord : st.ord ≤ 4000) :
    Calls Try.prog 19 #[.pointer (some ⟨r, 0, none⟩), .slice A hs.length c] w fun e w' => e = .returned (.int .i64 (cancelW st hs).1) ∧ IsWheel w' O r (cancelW st hs).2 ∧ Sm O w w' := by
  have H := Lib.hid (And.intro hW (And.intro hA (And.intro hAO ok)))
  obtain ⟨RC, hRC⟩ : ∃ RC, cancelW st hs = RC := ⟨_, rfl⟩
  rw [hRC]
  have HRC := Lib.hid hRC
  clear hW hA hAO ok hRC
  go_enter Try.func19, Try.ntmps19
  go_wp2_with fail
  go_loopw [5, 12] (fun nv iv wr => CanRel w O r st hs nv iv wr) (fun _ iv _ => hs.length - (intOf iv).toNat)
  case atStart => exact ⟨0, 0, st, Nat.zero_le _, Nat.le_refl _, rfl, rfl, H.out.1, Sm.refl _ _, by simp, rfl⟩
  case round =>
    obtain ⟨k, cn, stk, hk, hck, rfl, rfl, hWk, hsk, hcan, hordk⟩ := hrel
    have HK := Lib.hid (And.intro hWk (And.intro hsk (And.intro hcan hordk)))
    clear hWk hsk hcan hordk
    by_cases hlt : k < hs.length
    · obtain ⟨h, hh⟩ : ∃ h, hs[k]? = some h := ⟨_, List.getElem?_eq_getElem hlt⟩
      have hca := cancel_at stk hh
      obtain ⟨e0, e1⟩ := hCells_at hh
      have hokh := H.out.2.2.2 h (List.mem_of_getElem? hh)
      have hRw := H.out.2.1.sm HK.out.2.1 (fun a e => H.out.2.2.1 a e)
      obtain ⟨bb, off, hAe, hbl, r0⟩ := hRw.at e0
      obtain ⟨_, _, hAe1, _, r1⟩ := hRw.at e1
      subst hAe
      injection hAe1 with hAe1; injection hAe1 with q1 q2; subst q1 q2
      rw [← Nat.add_assoc] at r1
      have k1 : (0 : Int) ≤ (k : Int) := by omega
      have k2 : (k : Int) < (hs.length : Int) := by omega
      have hs1 := (Sm.refl No wr).alloc (.cells #[.int .i64 h.slot, .int .i64 h.gen] 29)
      obtain ⟨Os, s, tm, mb, T, h1, h2, h3, h4, h5, h6⟩ := id HK.out.1
      have c3 := (h1.no hs1).bk.at 3 (v := .map (some tm)) rfl
      have hrl := (h1.no hs1).bk.lt
      cases hT : hasT stk h
      · have hl := laysLook (h1.no hs1).tms hokh (getV_none (T := T) (fun x hx e => by
          have := (hasT_tb h2 h).2 ⟨x, hx, e⟩
          rw [hT] at this; cases this) (.pointer none))
        have hfin : CanRel w O r st hs (.int .i64 cn) (.int .i64 ((k + 1 : Nat) : Int)) (wr.alloc (.cells #[.int .i64 h.slot, .int .i64 h.gen] 29)) :=
          ⟨k + 1, cn, stk, by omega, by omega, rfl, rfl, HK.out.1.no hs1, HK.out.2.1.trans hs1 (fun _ _ h => h.elim), by rw [HK.out.2.2.1, hca, hT]; rfl, HK.out.2.2.2⟩
        have HF := Lib.hid hfin
        clear hfin h1 h2 h3 h4 h5 h6 hT hca hs1 hRw e0 e1 hh hokh
        go_wp2_with fail
        go_quiet (fail)
        go_wp2_with fail
        exact ⟨by
          obtain ⟨k', cn', stk', g1, g2, g3, g4, g5, g6, g7⟩ := HF.out
          exact ⟨k', cn', stk', g1, g2, (by rw [← g3]; go_num), g4, g5.no ((Sm.refl No _).drewN _), g6.drewN _, g7⟩, by simp [intOf]; omega⟩
      · obtain ⟨x, hx, hxh⟩ := (hasT_tb h2 h).1 hT
        obtain ⟨R, hR⟩ := pull hx
        subst hxh
        have hx' : x ∈ x :: R := List.mem_cons_self ..
        have hl := laysLook (h1.no hs1).tms hokh (getV_keys h1 hx (.pointer none))
        have h1' := (h1.no hs1).perm hR hR
        have hokp : okP x.p := by rw [h3 x hx]; exact okP_place _ _
        have hwr : ∀ b, blW Os r tm mb (x :: R) b → b < wr.heap.size := fun b hb => h1.lt (blW_mono hb (fun y hy => ⟨y, hR.mem_iff.2 hy, rfl⟩))
        have hbO : ∀ b, blW Os r tm mb (x :: R) b → O b := fun b hb => h5 b (blW_mono hb (fun y hy => ⟨y, hR.mem_iff.2 hy, rfl⟩))
        have hTl : T.length = R.length + 1 := by rw [hR.length_eq]; rfl
        have hisB : isB stk.sb x.t.h = true := by rw [h4.inS]; exact hT
        have hz : T.length ≤ 4000 := by have e1 := h2.length_eq; rw [List.length_map] at e1; have := h4.len; have := HK.out.2.2.2; omega
        have HT := Lib.hid (And.intro h1' (And.intro hs1 (And.intro h2 (And.intro h3 (And.intro h4 (And.intro h6 (And.intro hR (And.intro hca (And.intro hwr (And.intro hbO (And.intro hisB hT)))))))))))
        obtain ⟨hd, hhd⟩ : ∃ hd, x.t.h = hd := ⟨_, rfl⟩
        rw [hhd] at hl r0 r1 hokh c3 hrl
        clear h1 h1' h2 h3 h4 h5 h6 hT hca hs1 hRw e0 e1 hh hwr hbO hx hR
        go_wp2_with fail
        go_quiet (fail)
        obtain ⟨W, hW⟩ : ∃ W, (wr.alloc (.cells #[.int .i64 hd.slot, .int .i64 hd.gen] 29)).drewN nq = W := ⟨_, rfl⟩
        have hsW : Sm No wr W := by rw [← hW]; exact ((Sm.refl No wr).alloc _).drewN nq
        have hbx : Bk W wr.heap.size 29 #[.int .i64 hd.slot, .int .i64 hd.gen] := by rw [← hW]; exact (Bk.new wr _ _).drewN nq
        have hIW : IsW W Os r s tm mb stk.now stk.ord T.length stk.sb (x :: R) (x :: R) := by
          have := HT.out.1
          rw [hhd] at this
          exact (this.no ((Sm.refl No _).drewN nq)) |> (hW ▸ ·)
        rw [hW]
        obtain ⟨hx, hhx⟩ : ∃ hx, wr.heap.size = hx := ⟨_, rfl⟩
        rw [hhx] at hbx ⊢
        have q0 := hbx.at 0 (v := .int .i64 hd.slot) rfl
        have q1 := hbx.at 1 (v := .int .i64 hd.gen) rfl
        have hlif := lifts_any W Os r s tm stk.now stk.ord T.length mb stk.sb x R hIW hokp
        rw [hhd] at hlif
        unfold hv at hlif
        have HW := Lib.hid (And.intro hsW (And.intro hbx hhx))
        clear hW hsW hbx hhx hl c3 hIW r0 r1
        go_wp2_with fail
        refine hlif.mono ?_
        rintro e w2 ⟨rfl, hI2, hs2⟩
        have hbx2 := HW.out.2.1.sm hs2 (fun hb => by
          have h1 := HT.out.2.2.2.2.2.2.2.2.1 hx hb
          have := HW.out.2.2; omega)
        obtain ⟨w4, hrun, hm4, hs4⟩ := timersDrop (hI2.tms.sm ((Sm.refl No w2).drew) (fun h => h)) hokh
        have hI4 := (hI2.no ((Sm.refl No w2).drew)).dropTb (hhd ▸ hm4) hs4
        have c3 := hI2.bk.at 3 (v := .map (some tm)) rfl
        have q0 := hbx2.at 0 (v := .int .i64 hd.slot) rfl
        have q1 := hbx2.at 1 (v := .int .i64 hd.gen) rfl
        have hbx4 := hbx2.drew.sm hs4 (fun e : hx = tm => hI2.tms.not_bk hbx2 e.symm)
        have d3 := hI4.bk.at 3 (v := .map (some tm)) rfl
        have d2 := hI4.bk.at 2 (v := .pointer (some ⟨s, 0, none⟩)) rfl
        have u0 := hbx4.at 0 (v := .int .i64 hd.slot) rfl
        have u1 := hbx4.at 1 (v := .int .i64 hd.gen) rfl
        have hrl2 := hI2.bk.lt
        have hrl4 := hI4.bk.lt
        have hxl4 := hbx4.lt
        have hs24 : Sm (blW Os r tm mb (x :: R)) w2 w4 := ((Sm.refl No w2).drew.any _).trans hs4 (fun b _ e => Or.inr (Or.inr (Or.inl e)))
        have H4 := Lib.hid (And.intro hI4 (And.intro hs2 (And.intro hs24 hbx4)))
        clear hlif hI2 hs2 hbx2 hm4 hs4 hI4 hbx4 hs24
        go_wp2_with fail
        go_region_held3 (fun w' => w'.cell? ⟨r, 3, none⟩ = some (.map (some tm)) ∧ w'.cell? ⟨hx, 0, none⟩ = some (.int .i64 hd.slot) ∧ w'.cell? ⟨hx, 1, none⟩ = some (.int .i64 hd.gen)) (first | exact ⟨c3, q0, q1⟩ | exact ⟨d3, u0, u1⟩) (fail)
        clear c3 q0 q1 hrun
        have HA := Lib.hid (And.intro (((Sm.refl No w4).alloc (.cells #[.int .i64 hd.slot, .int .i64 hd.gen] 29)).drew) (rowC_of_bk (Bk.new w4 29 #[.int .i64 hd.slot, .int .i64 hd.gen]).drew))
        have hP := fun (w5 : World) (h5 : Sm Os ((w4.alloc (.cells #[.int .i64 hd.slot, .int .i64 hd.gen] 29)).drew) w5) => And.intro ((H4.out.1.no HA.out.1).bk.sm h5 (fun e => (H4.out.1.so _ e).1 rfl) |>.at 2 (v := .pointer (some ⟨s, 0, none⟩)) rfl) (And.intro (((H4.out.2.2.2.alloc (.cells #[.int .i64 hd.slot, .int .i64 hd.gen] 29)).drew).sm h5 (fun e => by
          have h1 := HT.out.2.2.2.2.2.2.2.2.1 hx (Or.inl e)
          have := HW.out.2.2; omega) |>.at 0 (v := .int .i64 hd.slot) rfl) (((H4.out.2.2.2.alloc (.cells #[.int .i64 hd.slot, .int .i64 hd.gen] 29)).drew).sm h5 (fun e => by
          have h1 := HT.out.2.2.2.2.2.2.2.2.1 hx (Or.inl e)
          have := HW.out.2.2; omega) |>.at 1 (v := .int .i64 hd.gen) rfl))
        have HP := Lib.hid hP
        clear hP
        have HTk := Lib.hid (And.intro hTl (And.intro (show isB stk.sb hd = true from hhd ▸ HT.out.2.2.2.2.2.2.2.2.2.2.1) (show R.length + 1 ≤ 4096 by omega)))
        go_wp2_with fail
        go_region_held3 (fun w' => w'.cell? ⟨r, 2, none⟩ = some (.pointer (some ⟨s, 0, none⟩)) ∧ w'.cell? ⟨hx, 0, none⟩ = some (.int .i64 hd.slot) ∧ w'.cell? ⟨hx, 1, none⟩ = some (.int .i64 hd.gen)) (first | exact ⟨d2, u0, u1⟩ | exact ⟨t2, v0, v1⟩ | go_keep)
          ((go_at_call 35; (with_reducible refine (take_yes _ Os s R.length stk.sb hd (HTk.out.1 ▸ H4.out.1.slab.no HA.out.1) _ 0 1 HA.out.2 HTk.out.2.1 HTk.out.2.2).mono ?_); rintro e w5 ⟨rfl, hS5, hs5⟩; have H5 := Lib.hid (And.intro hS5 hs5); obtain ⟨t2, v0, v1⟩ := HP.out w5 hs5; clear hS5 hs5))
        go_wp2_with fail
        have hW5 : IsWheel w5 O r (cancel1 stk x.t.h) := drop_done ((H4.out.1.no HA.out.1).setSlab H5.out.1 H5.out.2 (fun b h => Or.inl h)) hhd HT.out.2.2.1 HT.out.2.2.2.1 HT.out.2.2.2.2.1 HT.out.2.2.2.2.2.2.2.2.2.1 HT.out.2.2.2.2.2.2.1 (fun y hy => H4.out.1.tms.1 |> fun _ => HT.out.1.hds y hy) (fun b hb => by
          have := HT.out.2.2.2.2.2.1 b hb
          have h7 := Nat.le_trans HW.out.1.size (Nat.le_trans H4.out.2.1.size (Nat.le_trans H4.out.2.2.1.size (Nat.le_trans HA.out.1.size H5.out.2.size)))
          omega)
        have hs5 : Sm O w w5 := ((((HK.out.2.1.trans HW.out.1 (fun _ _ h => h.elim)).trans H4.out.2.1 (fun b _ h => HT.out.2.2.2.2.2.2.2.2.2.1 b h)).trans H4.out.2.2.1 (fun b _ h => HT.out.2.2.2.2.2.2.2.2.2.1 b h)).trans HA.out.1 (fun _ _ h => h.elim)).trans H5.out.2 (fun b _ h => HT.out.2.2.2.2.2.2.2.2.2.1 b (Or.inl h))
        refine ⟨⟨k + 1, cn + 1, cancel1 stk x.t.h, by omega, by omega, by go_num, ?_, hW5, hs5, ?_, HK.out.2.2.2⟩, by simp [intOf]; omega⟩
        · show Value.int .i64 (IntKind.i64.wrap ((cn : Int) + 1)) = _
          rw [IntWalk.i64_in _ (by omega)]
          go_num
        · rw [HK.out.2.2.1, HT.out.2.2.2.2.2.2.2.1, HT.out.2.2.2.2.2.2.2.2.2.2.2, if_pos rfl]
          refine Prod.ext ?_ rfl
          show (cn : Int) + (_ + 1) = ((cn + 1 : Nat) : Int) + _
          omega
    · have he : RC = ((cn : Int), stk) := by
        rw [← HRC.out, HK.out.2.2.1, List.drop_eq_nil_of_le (by omega)]
        simp [cancelW]
      subst he
      go_wp2_with fail
      go_ret
      exact ⟨rfl, HK.out.1, HK.out.2.1⟩
end Go.Proofs.Ytgmgjkafdkgalaa
