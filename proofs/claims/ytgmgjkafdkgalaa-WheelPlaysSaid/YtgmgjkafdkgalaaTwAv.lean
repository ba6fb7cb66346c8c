/- The document's Wheel (usherref6): Advance. -/
import Derived.Test.YtgmgjkafdkgalaaTwAd
import Derived.Lib.MinMax
import Derived.IntWalk
namespace Go.Proofs.Ytgmgjkafdkgalaa
open Go.RowKit Go.Proofs Go.Maps

def lenAt (r : Nat) (w : World) : Nat := match w.cell? ⟨r, 1, none⟩ with
  | some (.slice _ n _) => n
  | _ => 0
theorem lenAt_tw {w : World} {O : Nat → Prop} {r : Nat} {st : St} (h : IsTw w O r st) : lenAt r w = st.L.length := by
  obtain ⟨Os, s, v, h1, h2, h3, _⟩ := h
  obtain ⟨A, c, rfl, _⟩ := own_rowC h3
  unfold lenAt
  rw [h1.at 1 (v := .slice A st.L.length c) rfl]
def AdvT (w : World) (O : Nat → Prop) (r N ord len : Nat) (R : List Int × St) (out : Value) (wr : World) : Prop :=
  ∃ (D : List Int) (s : St) (O' : Nat → Prop), IsTw wr O' r s ∧ s.now = N ∧ s.ord = ord ∧ wr.ownsRow w.heap.size 3 1 out D.length (D.map fun x => .int .i64 x) ∧ (∀ b, out.ownBlock = some b → ¬ O' b) ∧ D.length + s.L.length = len ∧ R = (D ++ (advN s N).1, (advN s N).2) ∧ Sm O w wr ∧ ∀ b, O' b → O b ∨ w.heap.size ≤ b
def MinT (w : World) (L : List Tm) (n : Nat) (kv i : Value) (wr : World) : Prop := ∃ (k : Nat) (m : Int), k ≤ L.length ∧ i = .int .i64 k ∧ kv = .int .i64 m ∧ MinAt L n k m ∧ Sm No w wr
theorem RowC.tmTake {w : World} {A : Option Addr} {L : List Tm} (h : RowC w A (tmRow L)) (k : Nat) : RowC w A (tmRow (L.take k)) := fun j u hj => h j u (by
  have e : tmRow L = tmRow (L.take k) ++ tmRow (L.drop k) := by rw [← tmRow_app, List.take_append_drop]
  rw [e, List.getElem?_append_left (List.getElem?_eq_some_iff.1 hj).1]
  exact hj)
theorem RowC.tmDrop {w : World} {bb : Nat} {L : List Tm} (h : RowC w (some ⟨bb, 0, none⟩) (tmRow L)) {k : Nat} (hk : k ≤ L.length) : RowC w (some ⟨bb, k * 5, none⟩) (tmRow (L.drop k)) := fun j u hj => by
  have e : tmRow L = tmRow (L.take k) ++ tmRow (L.drop k) := by rw [← tmRow_app, List.take_append_drop]
  have hl : (tmRow (L.take k)).length = k * 5 := by rw [tmRow_len, List.length_take, Nat.min_eq_left hk]
  have h2 : (tmRow L)[k * 5 + j]? = some u := by
    rw [e, List.getElem?_append_right (by omega), hl, Nat.add_sub_cancel_left]
    exact hj
  obtain ⟨b1, o1, e1, h3, h4⟩ := h _ _ h2
  injection e1 with e1
  injection e1 with e2 e3
  subst e2 e3
  exact ⟨bb, k * 5, rfl, h3, by rw [← h4, Nat.zero_add]⟩
theorem tmRow_one (L : List Tm) : ∀ u ∈ tmRow L, u.oneCell' = true := by
  intro u hu
  unfold tmRow at hu
  obtain ⟨t, _, ht⟩ := List.mem_flatMap.1 hu
  simp only [List.mem_cons, List.not_mem_nil, or_false] at ht
  rcases ht with rfl | rfl | rfl | rfl | rfl <;> rfl
theorem sm_fresh {w w1 w2 : World} {n c : Nat} (h : Sm No w w1) (hs : Sm (fun b => (Value.slice (some ⟨w.heap.size, 0, none⟩) n c).ownBlock = some b) w1 w2) : Sm No w w2 := h.trans hs (fun b hb e => by
  injection e with e
  have e : w.heap.size = b := e
  omega)
theorem sm_fresh2 {w w1 w2 : World} {v : Value} (h : Sm No w w1) (hs : Sm (fun b => v.ownBlock = some b) w1 w2) (hv2 : ∀ b, v.ownBlock = some b → w.heap.size ≤ b) : Sm No w w2 := h.trans hs (fun b hb e => by
  have := hv2 b e
  omega)
theorem adv_round {w wo wr w8 w4 w6 : World} {O O' Os : Nat → Prop} {r sl N ord len k : Nat} {R : List Int × St} {D : List Int} {s : St} {t : Tm} {u5 v' v5 v6 : Value}
    (hnow : s.now = N) (hord : s.ord = ord) (hD : wo.ownsRow w.heap.size 3 1 u5 D.length (D.map fun x => .int .i64 x)) (hlen : D.length + s.L.length = len) (hRR : R = (D ++ (advN s N).1, (advN s N).2)) (hsm : Sm O w wo) (hO' : ∀ b, O' b → O b ∨ w.heap.size ≤ b) (hok : s.Ok) (hl : lenAt r wo = s.L.length)
    (hO5 : ∀ b, (Os b ∨ b = r) → O' b) (hOs : ∀ b, Os b → b ≠ r) (hOlt : ∀ b, O' b → b < wo.heap.size)
    (hs1 : Sm No wo wr) (hs2 : Sm (fun b => u5.ownBlock = some b) wr w8) (hv' : w8.ownsRow w.heap.size 3 1 v' (D.length + 1) ((D.map fun x => .int .i64 x) ++ [.int .i64 t.what])) (hvb : ∀ b, v'.ownBlock = some b → ¬ O' b) (hs3 : Sm Os w8 w4) (hR4 : RSl w4 Os sl (takeB s.sb t.h)) (b4 : Bk w4 r 56 #[.pointer (some ⟨sl, 0, none⟩), v5, .int .i64 N, .int .i64 s.ord]) (hs4 : Sm No w4 w6) (h6 : w6.ownsRow w4.heap.size 88 5 v6 (k + (s.L.length - (k + 1))) (tmRow (s.L.take k) ++ tmRow (s.L.drop (k + 1)))) (ht : s.L[k]? = some t) (hadv : advN s N = (t.what :: (advN (cancel1 s t.h) N).1, (advN (cancel1 s t.h) N).2)) :
    AdvT w O r N ord len R v' (w6.setCell ⟨r, 1, none⟩ v6) ∧ lenAt r (w6.setCell ⟨r, 1, none⟩ v6) < lenAt r wo := by
  have hk : k < s.L.length := (List.getElem?_eq_some_iff.1 ht).1
  have hs7 := (Sm.refl (fun b => b = r) w6).set1 1 v6
  have z1 := hs1.size
  have z2 := hs2.size
  have z3 := hs3.size
  have z4 := hs4.size
  have z7 := hs7.size
  have hdr : dropT s.L t.h = s.L.take k ++ s.L.drop (k + 1) := by rw [dropT_erase hok.one ht, List.eraseIdx_eq_take_drop_succ]
  have hdl : (dropT s.L t.h).length = k + (s.L.length - (k + 1)) := by rw [hdr, List.length_append, List.length_take, List.length_drop]; omega
  have hro : O' r := hO5 r (Or.inr rfl)
  have hrl := hOlt r hro
  have h6b : ∀ b, v6.ownBlock = some b → w4.heap.size ≤ b := fun b e => row_base h6 e
  have hT0 : Tw0 (w6.setCell ⟨r, 1, none⟩ v6) (fun b => Os b ∨ b = r ∨ v6.ownBlock = some b) r N s.ord (takeB s.sb t.h) (dropT s.L t.h) := by
    refine ⟨Os, sl, v6, ((b4.no hs4).set 1 v6).eq rfl, (hR4.no hs4).sm hs7 (fun b hb e => hOs b hb e), ?_, fun b hb => ⟨hOs b hb, fun e => by have := h6b b e; have := hOlt b (hO5 b (Or.inl hb)); omega⟩, fun b hb => hb, fun b hb => ?_⟩
    · rw [hdl, hdr, tmRow_app]
      exact own_row_base (own_row_sm h6 hs7 (fun b e1 e2 => by have := h6b b e1; omega)) (fun b _ => Nat.zero_le b)
    · rcases hb with hb | hb | hb
      · have := hOlt b (hO5 b (Or.inl hb)); omega
      · omega
      · have := own_row_lt h6 hb; omega
  have hT : IsTw (w6.setCell ⟨r, 1, none⟩ v6) (fun b => Os b ∨ b = r ∨ v6.ownBlock = some b) r (cancel1 s t.h) := by
    rw [← hnow] at hT0
    exact Tw0.tw (st := cancel1 s t.h) hT0 (cancel1_ok hok t.h)
  refine ⟨⟨D ++ [t.what], cancel1 s t.h, _, hT, hnow, hord, ?_, fun b e hb => ?_, ?_, ?_, ?_, fun b hb => ?_⟩, ?_⟩
  · rw [List.length_append, List.map_append]
    refine own_row_sm (own_row_sm (own_row_sm hv' hs3 (fun b e1 e2 => hvb b e1 (hO5 b (Or.inl e2)))) hs4 (fun _ _ h => h)) hs7 (fun b e1 e2 => hvb b e1 (hO5 b (Or.inr e2)))
  · rcases hb with hb | hb | hb
    · exact hvb b e (hO5 b (Or.inl hb))
    · exact hvb b e (hO5 b (Or.inr hb))
    · have := h6b b hb; have := own_row_lt hv' e; omega
  · show (D ++ [t.what]).length + (dropT s.L t.h).length = len
    rw [hdl, List.length_append]
    simp only [List.length_cons, List.length_nil]
    omega
  · rw [hRR, hadv, List.append_assoc]
    rfl
  · refine ((((hsm.trans hs1 (fun _ _ h => h.elim)).trans hs2 (fun b hb e => ?_)).trans hs3 (fun b hb e => ?_)).trans hs4 (fun _ _ h => h.elim)).trans hs7 (fun b hb e => ?_)
    · have := row_base hD e; omega
    · rcases hO' b (hO5 b (Or.inl e)) with h | h
      · exact h
      · omega
    · rcases hO' b (hO5 b (Or.inr e)) with h | h
      · exact h
      · omega
  · rcases hb with hb | hb | hb
    · exact hO' b (hO5 b (Or.inl hb))
    · exact hO' b (hO5 b (Or.inr hb))
    · right
      have := h6b b hb
      have := hsm.size
      omega
  · rw [lenAt_tw hT, hl]
    show (dropT s.L t.h).length < _
    omega
def TAdvPost (w : World) (O : Nat → Prop) (r : Nat) (R : List Int × St) (e : Ending) (w' : World) : Prop :=
  ∃ v O', e = .returned v ∧ w'.ownsRow w.heap.size 3 1 v R.1.length (R.1.map fun x => .int .i64 x) ∧ IsTw w' O' r R.2 ∧ Sm O w w' ∧ (∀ b, O' b → O b ∨ w.heap.size ≤ b) ∧ ∀ b, v.ownBlock = some b → ¬ O' b
set_option maxRecDepth 100000 in
set_option maxHeartbeats 8000000 in
theorem twadv_any (w : World) (O : Nat → Prop) (r : Nat) (st : St) (n : Int) (hW : IsTw w O r st) (ho : st.ord ≤ 4000) :
    Calls Try.prog 25 #[.pointer (some ⟨r, 0, none⟩), .int .i64 n] w (TAdvPost w O r (advW st n)) := by
  obtain ⟨R, hR⟩ : ∃ R, advW st n = R := ⟨_, rfl⟩
  obtain ⟨N, hN⟩ : ∃ N : Nat, min (max (st.now : Int) n) 1099511627776 = (N : Int) := ⟨(min (max (st.now : Int) n) 1099511627776).toNat, by omega⟩
  have hNm : N ≤ 1099511627776 := by omega
  have hgo : goesTo st n = N := by unfold goesTo; omega
  rw [advW_advN, hgo, ← advN_now st N N] at hR
  rw [show advW st n = R by rw [advW_advN, hgo, ← advN_now st N N]; exact hR]
  obtain ⟨⟨Os, s, v, h1, h2, h3, h4, h5, h6⟩, hok⟩ := hW.t0
  have c2 := h1.at 2 (v := .int .i64 st.now) rfl
  have f2 := h1.fz 2
  have hrl := h1.lt
  have hs0 := (Sm.refl (fun b => b = r) w).set1 2 (.int .i64 N)
  have hT0 : IsTw (w.setCell ⟨r, 2, none⟩ (.int .i64 N)) O r { st with now := N } :=
    Tw0.tw (st := { st with now := N }) ⟨Os, s, v, (h1.set 2 _).eq rfl, h2.sm hs0 (fun b hb e => (h4 b hb).1 e), own_row_sm h3 hs0 (fun b e1 e2 => row_not_bk h3 h1 (by decide) (e2 ▸ e1)), h4, h5, fun b hb => by have := h6 b hb; have := hs0.size; omega⟩ (hok.atNow hNm)
  have hsm0 : Sm O w (w.setCell ⟨r, 2, none⟩ (.int .i64 N)) := hs0.mono (fun b _ e => h5 b (Or.inr (Or.inl e)))
  obtain ⟨W, hWe⟩ : ∃ W, w.setCell ⟨r, 2, none⟩ (.int .i64 N) = W := ⟨_, rfl⟩
  rw [hWe] at hT0 hsm0
  have H := Lib.hid (And.intro hT0 (And.intro hsm0 hR))
  have HE := Lib.hid (And.intro hN hWe)
  clear h1 h2 h3 h4 h5 h6 hok hW hT0 hsm0 hR hs0 hgo hWe hN
  go_enter Try.func25, Try.ntmps25
  go_wp2_with fail
  rw [HE.out.1, HE.out.2]
  go_loopw [5] (fun out wr => AdvT w O r N st.ord st.L.length R out wr) (fun _ wr => lenAt r wr)
  case atStart => exact ⟨[], { st with now := N }, O, H.out.1, rfl, rfl, World.ownsRow_nil _ _ _ 1, (fun b hb => by cases hb), by simp, by rw [← H.out.2.2]; rfl, H.out.2.1, fun b hb => Or.inl hb⟩
  case round =>
    obtain ⟨D, s, O', hT, hnow, hord, hD, hDO, hlen, hRR, hsm, hO'⟩ := hrel
    have hlenr := lenAt_tw hT
    obtain ⟨⟨Os, sl, v, b1, b2, b3, b4, b5, b6⟩, hok⟩ := hT.t0
    obtain ⟨A, c, rfl, hRw, hcap⟩ := own_rowC b3
    rw [hnow] at b1
    have c1 := b1.at 1 (v := .slice A s.L.length c) rfl
    have c2 := b1.at 2 (v := .int .i64 N) rfl
    have hrl := b1.lt
    have hll : s.L.length ≤ 4000 := by have := hok.len; omega
    have hDl : D.length ≤ 4000 := by
      obtain ⟨_, ho0⟩ := H.out.1.t0
      have : st.L.length ≤ st.ord := ho0.len
      omega
    have HS := Lib.hid (And.intro hT (And.intro hnow (And.intro hord (And.intro hD (And.intro hDO (And.intro hlen (And.intro hRR (And.intro hsm (And.intro hO' (And.intro hlenr hok))))))))))
    have HB := Lib.hid (And.intro b1 (And.intro b2 (And.intro b3 (And.intro b4 (And.intro b5 (And.intro b6 hRw))))))
    clear hT hnow hord hD hDO hlen hRR hsm hO' hlenr hok b1 b2 b3 b4 b5 b6 hRw
    obtain ⟨wo, rfl⟩ : ∃ wo : World, wo = wr := ⟨_, rfl⟩
    go_wp2_with fail
    go_loopw [6, 7] (fun kv i w2 => MinT wo s.L N kv i w2) (fun _ i _ => s.L.length - (intOf i).toNat)
    case atStart => exact ⟨0, -1, Nat.zero_le _, rfl, rfl, minAt_zero _ _, Sm.refl _ _⟩
    case round =>
      obtain ⟨k, m, hk, rfl, rfl, hM, hs2⟩ := hrel
      have bI := HB.out.1.no hs2
      have c1 := bI.at 1 (v := .slice A s.L.length c) rfl
      have c2 := bI.at 2 (v := .int .i64 N) rfl
      have hrl := bI.lt
      have HI := Lib.hid (And.intro hs2 bI)
      clear hs2 bI
      by_cases hlt : k < s.L.length
      · obtain ⟨t, ht⟩ : ∃ t, s.L[k]? = some t := ⟨_, List.getElem?_eq_getElem hlt⟩
        obtain ⟨t1, t2, t3, t4, t5⟩ := tmRow_at ht
        obtain ⟨bb, off, hAe, hbb, r0⟩ := (HB.out.2.2.2.2.2.2.no HI.out.1).at t1
        subst hAe
        obtain ⟨_, _, hA1, _, r1⟩ := (HB.out.2.2.2.2.2.2.no HI.out.1).at t2
        injection hA1 with hA1; injection hA1 with e1 e2; subst e1 e2
        obtain ⟨_, _, hA1, _, r2⟩ := (HB.out.2.2.2.2.2.2.no HI.out.1).at t3
        injection hA1 with hA1; injection hA1 with e1 e2; subst e1 e2
        obtain ⟨_, _, hA1, _, r3⟩ := (HB.out.2.2.2.2.2.2.no HI.out.1).at t4
        injection hA1 with hA1; injection hA1 with e1 e2; subst e1 e2
        obtain ⟨_, _, hA1, _, r4⟩ := (HB.out.2.2.2.2.2.2.no HI.out.1).at t5
        injection hA1 with hA1; injection hA1 with e1 e2; subst e1 e2
        rw [show off + (k * 5 + 1) = off + k * 5 + 1 by omega] at r1
        rw [show off + (k * 5 + 2) = off + k * 5 + 2 by omega] at r2
        rw [show off + (k * 5 + 3) = off + k * 5 + 3 by omega] at r3
        rw [show off + (k * 5 + 4) = off + k * 5 + 4 by omega] at r4
        have k1 : (0 : Int) ≤ (k : Int) := by omega
        have k2 : (k : Int) < (s.L.length : Int) := by omega
        have HT := Lib.hid ht
        clear t1 t2 t3 t4 t5 ht
        by_cases hd : t.a ≤ N
        · rcases id hM with ⟨rfl, hno⟩ | ⟨k2, u, rfl, hk2, hu, hun, hmin⟩
          · clear hno
            have da1 : decide ((t.a : Int) ≤ (N : Int)) = true := by simp; omega
            have da2 : decide (t.a ≤ N) = true := by simp; omega
            have HMn := Lib.hid (show MinAt s.L N (k + 1) k from minAt_first hM HT.out hd)
            clear hM
            go_wp2_with fail
            go_quiet (fail)
            go_wp2_with fail
            exact ⟨⟨k + 1, k, by omega, by go_num, rfl, HMn.out, (HI.out.1.alloc _).drewN _⟩, by simp [intOf]; omega⟩
          · clear hmin
            obtain ⟨u1, u2, u3, u4, u5⟩ := tmRow_at hu
            obtain ⟨_, _, hA1, _, p0⟩ := (HB.out.2.2.2.2.2.2.no HI.out.1).at u1
            injection hA1 with hA1; injection hA1 with e1 e2; subst e1 e2
            obtain ⟨_, _, hA1, _, p2⟩ := (HB.out.2.2.2.2.2.2.no HI.out.1).at u3
            injection hA1 with hA1; injection hA1 with e1 e2; subst e1 e2
            rw [show off + (k2 * 5 + 2) = off + k2 * 5 + 2 by omega] at p2
            have HU := Lib.hid hu
            have j1 : (0 : Int) ≤ (k2 : Int) := by omega
            have j2 : (k2 : Int) < (s.L.length : Int) := by omega
            have j3 : decide ((k2 : Int) < 0) = false := by simp
            clear u1 u2 u3 u4 u5 hu
            by_cases h1 : t.a < u.a
            · clear hk2
              have da1 : decide ((t.a : Int) ≤ (N : Int)) = true := by simp; omega
              have da2 : decide (t.a ≤ N) = true := by simp; omega
              have db1 : decide ((t.a : Int) < (u.a : Int)) = true := by simp; omega
              have db2 : decide (t.a < u.a) = true := by simp; omega
              have HMn := Lib.hid (show MinAt s.L N (k + 1) k from minAt_new hM HU.out HT.out hd (Or.inl h1))
              clear hM
              go_wp2_with fail
              go_quiet (fail)
              go_wp2_with fail
              exact ⟨⟨k + 1, k, by omega, by go_num, rfl, HMn.out, (HI.out.1.alloc _).drewN _⟩, by simp [intOf]; omega⟩
            · by_cases h2 : t.a = u.a ∧ t.ord < u.ord
              · clear hk2
                have da1 : decide ((t.a : Int) ≤ (N : Int)) = true := by simp; omega
                have da2 : decide (t.a ≤ N) = true := by simp; omega
                have db1 : decide ((t.a : Int) < (u.a : Int)) = false := by simp; omega
                have db2 : decide (t.a < u.a) = false := by simp; omega
                have dc1 : ((t.a : Int) == (u.a : Int)) = true := by simp; omega
                have dc2 : (t.a == u.a) = true := by simp; omega
                have dc3 : decide (t.a = u.a) = true := by simp; omega
                have dd1 : decide ((t.ord : Int) < (u.ord : Int)) = true := by simp; omega
                have dd2 : decide (t.ord < u.ord) = true := by simp; omega
                have HMn := Lib.hid (show MinAt s.L N (k + 1) k from minAt_new hM HU.out HT.out hd (Or.inr h2))
                clear hM
                go_wp2_with fail
                go_quiet (fail)
                go_wp2_with fail
                exact ⟨⟨k + 1, k, by omega, by go_num, rfl, HMn.out, (HI.out.1.alloc _).drewN _⟩, by simp [intOf]; omega⟩
              · by_cases h3 : t.a = u.a
                · clear hk2
                  have da1 : decide ((t.a : Int) ≤ (N : Int)) = true := by simp; omega
                  have da2 : decide (t.a ≤ N) = true := by simp; omega
                  have db1 : decide ((t.a : Int) < (u.a : Int)) = false := by simp; omega
                  have db2 : decide (t.a < u.a) = false := by simp; omega
                  have dc1 : ((t.a : Int) == (u.a : Int)) = true := by simp; omega
                  have dc2 : (t.a == u.a) = true := by simp; omega
                  have dc3 : decide (t.a = u.a) = true := by simp; omega
                  have dd1 : decide ((t.ord : Int) < (u.ord : Int)) = false := by simp; omega
                  have dd2 : decide (t.ord < u.ord) = false := by simp; omega
                  have HMn := Lib.hid (show MinAt s.L N (k + 1) k2 from minAt_old hM HU.out HT.out (fun e => e.elim h1 h2))
                  clear hM
                  go_wp2_with fail
                  go_quiet (fail)
                  go_wp2_with fail
                  exact ⟨⟨k + 1, k2, by omega, by go_num, rfl, HMn.out, (HI.out.1.alloc _).drewN _⟩, by simp [intOf]; omega⟩
                · clear hk2
                  have da1 : decide ((t.a : Int) ≤ (N : Int)) = true := by simp; omega
                  have da2 : decide (t.a ≤ N) = true := by simp; omega
                  have db1 : decide ((t.a : Int) < (u.a : Int)) = false := by simp; omega
                  have db2 : decide (t.a < u.a) = false := by simp; omega
                  have dc1 : ((t.a : Int) == (u.a : Int)) = false := by simp; omega
                  have dc2 : (t.a == u.a) = false := by simp; omega
                  have dc3 : decide (t.a = u.a) = false := by simp; omega
                  have HMn := Lib.hid (show MinAt s.L N (k + 1) k2 from minAt_old hM HU.out HT.out (fun e => e.elim h1 h2))
                  clear hM
                  go_wp2_with fail
                  go_quiet (fail)
                  go_wp2_with fail
                  exact ⟨⟨k + 1, k2, by omega, by go_num, rfl, HMn.out, (HI.out.1.alloc _).drewN _⟩, by simp [intOf]; omega⟩
        · have da1 : decide ((t.a : Int) ≤ (N : Int)) = false := by simp; omega
          have da2 : decide (t.a ≤ N) = false := by simp; omega
          have HMn := Lib.hid (show MinAt s.L N (k + 1) m from minAt_late hM HT.out (by omega))
          clear hM
          go_wp2_with fail
          go_quiet (fail)
          go_wp2_with fail
          exact ⟨⟨k + 1, m, by omega, by go_num, rfl, HMn.out, (HI.out.1.alloc _).drewN _⟩, by simp [intOf]; omega⟩
      · obtain rfl : k = s.L.length := by omega
        clear hk
        unfold MinAt at hM
        rw [List.take_length] at hM
        rcases hM with ⟨rfl, hno⟩ | ⟨k, t, rfl, hkl, ht, htn, hmin⟩
        · have hRf : R = (D, s) := by
            rw [HS.out.2.2.2.2.2.2.1, advN_end HS.out.2.2.2.2.2.2.2.2.2.2 hno, List.append_nil]
            refine Prod.ext rfl ?_
            show St.mk N s.ord s.sb s.L = s
            rw [← HS.out.2.1]
          have HR := Lib.hid hRf
          clear hRf hno
          go_wp2_with fail
          go_ret
          obtain ⟨g1, g2, g3, g4, g5, g6, g7, g8, g9, g10, g11⟩ := HS.out
          refine ⟨_, O', rfl, ?_, ?_, g8.trans HI.out.1 (fun _ _ h => h.elim), g9, g5⟩
          · rw [HR.out]
            exact own_row_sm g4 HI.out.1 (fun _ _ h => h)
          · rw [HR.out]
            exact g1.no HI.out.1
        · obtain ⟨t1, t2, t3, t4, t5⟩ := tmRow_at ht
          obtain ⟨bb, off, hAe, hbb, r0⟩ := (HB.out.2.2.2.2.2.2.no HI.out.1).at t1
          subst hAe
          obtain ⟨_, _, hA1, _, r1⟩ := (HB.out.2.2.2.2.2.2.no HI.out.1).at t2
          injection hA1 with hA1; injection hA1 with e1 e2; subst e1 e2
          obtain ⟨_, _, hA1, _, r3⟩ := (HB.out.2.2.2.2.2.2.no HI.out.1).at t4
          injection hA1 with hA1; injection hA1 with e1 e2; subst e1 e2
          obtain ⟨_, _, hA1, _, r4⟩ := (HB.out.2.2.2.2.2.2.no HI.out.1).at t5
          injection hA1 with hA1; injection hA1 with e1 e2; subst e1 e2
          rw [show off + (k * 5 + 1) = off + k * 5 + 1 by omega] at r1
          rw [show off + (k * 5 + 3) = off + k * 5 + 3 by omega] at r3
          rw [show off + (k * 5 + 4) = off + k * 5 + 3 + 1 by omega] at r4
          have k1 : (0 : Int) ≤ (k : Int) := by omega
          have k2 : (k : Int) < (s.L.length : Int) := by omega
          have k3 : decide ((k : Int) < 0) = false := by simp
          have hstep := advN_step HS.out.2.2.2.2.2.2.2.2.2.2 ht htn hmin
          have HT := Lib.hid (And.intro ht hstep)
          have hO4 := own_row_sm HS.out.2.2.2.1 HI.out.1 (fun _ _ h => h)
          have HO4 := Lib.hid hO4
          have hsz : w.heap.size ≤ wr.heap.size := Nat.le_trans HS.out.2.2.2.2.2.2.2.1.size HI.out.1.size
          clear t1 t2 t3 t4 t5 ht htn hmin hstep hO4
          go_wp2_with (refine wpList_push rfl _ _ 22 3 rfl Try.underlying22 _ 1 8 infoInt rfl (by decide) (by decide) w.heap.size _ u5 _ rfl (World.ownsRow.alloc HO4.out _) wr.heap.size #[.int .i64 t.what] rfl (Bk.new wr _ _) rfl (by simp [Value.oneCell']) (by omega) (by simp; omega) ?_; intro v' w8 hown8 hs8 hv8; refine RowKit.Hid.out ?_)
          refine Lib.hid ?_
          rcases own_row_form HB.out.2.2.1 with ⟨hf, _⟩ | ⟨bb2, cap2, hf, _, _, _, hcc, _, _⟩
          · cases hf
          injection hf with hf1 _ hf2
          injection hf1 with hf1
          injection hf1 with hf1 hf3
          subst hf1 hf2 hf3
          rw [Nat.zero_add] at r0 r1 r3 r4
          have hbO : O' bb := HB.out.2.2.2.2.1 bb (Or.inr (Or.inr rfl))
          have hrO : O' r := HB.out.2.2.2.2.1 r (Or.inr (Or.inl rfl))
          have hDO := HS.out.2.2.2.2.1
          have s18 : Sm (fun b => u5.ownBlock = some b) wr w8 := ((Sm.refl _ wr).alloc (.cells #[.int .i64 t.what] 3)).trans hs8 (fun _ _ h => h)
          have hbne : ¬ u5.ownBlock = some bb := fun e => hDO bb e hbO
          have b8 := HI.out.2.sm s18 (fun e => hDO r e hrO)
          have c0 := b8.at 0 (v := .pointer (some ⟨sl, 0, none⟩)) rfl
          have c1 := b8.at 1 (v := .slice (some ⟨bb, 0, none⟩) s.L.length c) rfl
          have r3 := (s18.cellS hbb hbne).trans r3
          have r4 := (s18.cellS hbb hbne).trans r4
          have hrl8 := b8.lt
          have hbb8 := Nat.lt_of_lt_of_le hbb s18.size
          have hR8 := (HB.out.2.1.no HI.out.1).sm s18 (fun b hb e => hDO b e (HB.out.2.2.2.2.1 b (Or.inl hb)))
          have hv8r := own_row_sm (own_row_sm HB.out.2.2.1 HI.out.1 (fun _ _ h => h)) s18 (fun b e1 e2 => hDO b e2 (HB.out.2.2.2.2.1 b (Or.inr (Or.inr e1))))
          have hTk := rsTake_any (w8.alloc (.cells #[.int .i64 t.h.slot, .int .i64 t.h.gen] 29)).drew Os sl s.sb t.h (hR8.no ((Sm.refl No w8).alloc _).drew) (ok_in HS.out.2.2.2.2.2.2.2.2.2.2 (by have := HS.out.2.2.1; omega) (List.mem_of_getElem? HT.out.1)) w8.heap.size 0 1 (fun j u hj => ⟨w8.heap.size, 0, rfl, by simp, by
            rw [Nat.zero_add]
            exact (Bk.new w8 29 #[.int .i64 t.h.slot, .int .i64 t.h.gen]).at j (by simpa using hj)⟩) (by have := HS.out.2.2.2.2.2.2.2.2.2.2.slots; have := HS.out.2.2.1; omega)
          obtain ⟨q, hq⟩ : ∃ q : Int, (if isB s.sb t.h = true then 1 else 0) = q := ⟨_, rfl⟩
          rw [hq] at hTk
          clear hq
          have hwr8 : w.heap.size ≤ w8.heap.size := Nat.le_trans hsz s18.size
          have hvb : ∀ b, v'.ownBlock = some b → ¬ O' b := fun b e hb => by
            rcases hv8 with h | h
            · exact hDO b (h.symm.trans e) hb
            · rw [h] at e
              injection e with e
              have := HB.out.2.2.2.2.2.1 b hb
              have := HI.out.1.size
              simp at e
              omega
          have H8 := Lib.hid (And.intro hown8 (And.intro s18 (And.intro b8 (And.intro hR8 (And.intro hv8r hvb)))))
          have HTk := Lib.hid hTk
          clear hown8 hs8 hv8 s18 b8 hR8 hv8r hTk hvb hsz hbne hDO r0 r1
          go_wp2_with fail
          go_region_held3 (fun w' => w'.cell? ⟨r, 0, none⟩ = some (.pointer (some ⟨sl, 0, none⟩)) ∧ w'.cell? ⟨r, 1, none⟩ = some (.slice (some ⟨bb, 0, none⟩) s.L.length c) ∧ w'.cell? ⟨bb, k * 5 + 3, none⟩ = some (.int .i64 t.h.slot) ∧ w'.cell? ⟨bb, k * 5 + 3 + 1, none⟩ = some (.int .i64 t.h.gen)) (first | exact ⟨c0, c1, r3, r4⟩ | (refine ⟨?_, ?_, ?_, ?_⟩ <;> assumption) | go_keep)
            ((go_at_call 42; (with_reducible refine HTk.out.mono ?_); rintro e w4 ⟨rfl, hR4, hs4⟩; have b4 := ((H8.out.2.2.1.alloc (.cells #[.int .i64 t.h.slot, .int .i64 t.h.gen] 29)).drew).sm hs4 (fun e => (HB.out.2.2.2.1 r e).1 rfl); have c5 := b4.at 0 (v := .pointer (some ⟨sl, 0, none⟩)) rfl; have c6 := b4.at 1 (v := .slice (some ⟨bb, 0, none⟩) s.L.length c) rfl; have s4 := (((Sm.refl Os w8).alloc (.cells #[.int .i64 t.h.slot, .int .i64 t.h.gen] 29)).drew).trans hs4 (fun _ _ h => h); have hbOs : ¬ Os bb := fun e => (HB.out.2.2.2.1 bb e).2 rfl; have r5 := (s4.cellS hbb8 hbOs).trans r3; have r6 := (s4.cellS hbb8 hbOs).trans r4))
          all_goals
            have hR9 : RowC w4 (some ⟨bb, 0, none⟩) (tmRow s.L) := ((HB.out.2.2.2.2.2.2.no HI.out.1).sm H8.out.2.1 (fun a e => by injection e with e; subst e; exact fun e => HS.out.2.2.2.2.1 bb e hbO)).sm s4 (fun a e => by injection e with e; subst e; exact hbOs)
            have hrl4 := b4.lt
            have hk1 : k ≤ c := by omega
            have hk2 : k + 1 ≤ s.L.length := by omega
            have hk3 : k + 1 ≤ c := by omega
            have hk5 : k ≤ 4000 := by omega
            have hTk5 := hR9.tmTake k
            obtain ⟨A2, hA2⟩ : ∃ A2 : Option Addr, (if c = k + 1 then some ⟨bb, 0, none⟩ else some ⟨bb, (k + 1) * 5, none⟩) = A2 := ⟨_, rfl⟩
            have hDr5 : RowC w4 A2 (tmRow (s.L.drop (k + 1))) := by
              rw [← hA2]
              split
              · rw [List.drop_eq_nil_of_le (by omega)]
                exact RowC.nil _ _
              · exact hR9.tmDrop hk2
            have hA3 : ∃ a, A2 = some a := by
              rw [← hA2]
              split <;> exact ⟨_, rfl⟩
            have i1 : (0 : Int) ≤ (k : Int) + 1 := by omega
            have i2 : (k : Int) + 1 ≤ (s.L.length : Int) := by omega
            have i4 : ((k : Int) + 1).toNat = k + 1 := by omega
            have hse : Sm No w4 (w4.alloc (.cells #[] 88)).drew := ((Sm.refl _ w4).alloc _).drew
            have hoe : World.ownsRow (w4.alloc (.cells #[] 88)).drew w4.heap.size 88 5 _ 0 [] := World.ownsRow.drew (own_empty w4 88 5 (Nat.le_refl _))
            have H4 := Lib.hid (And.intro hR4 (And.intro s4 (And.intro b4 (And.intro hoe (And.intro (hTk5.no hse) hse)))))
            have HD := Lib.hid hDr5
            have HA3 := Lib.hid hA3
            have hsz4 := hse.size
            have hlk : (s.L.take k).length = k := by rw [List.length_take, Nat.min_eq_left (by omega)]
            have HLk := Lib.hid hlk
            clear hR4 s4 b4 hR9 r3 r4 r5 r6 c0 c1 hs4 hTk5 hDr5 hA3 hse hoe hlk
            go_wp2_with fail
            have i3 : IntKind.i64.wrap ((k : Int) + 1) = (k : Int) + 1 := IntWalk.i64_in _ (by omega)
            go_region_law
                ((first
                  | (refine step_push_opt0 (by rfl) _ _ 54 88 (by rfl) Try.underlying54 _ 5 40 infoTr rfl (by decide) (by decide) w4.heap.size _ (by rfl) H4.out.2.2.2.1 (some ⟨bb, 0, none⟩) k c (tmRow (s.L.take k)) (by rfl) (fun e => by cases e) (by rw [tmRow_len, HLk.out]) H4.out.2.2.2.2.1 (tmRow_one _) (by omega) (by simp) ?_; intro A5 c5' w5 hown5 hs5 hb5; have hs45 := sm_fresh H4.out.2.2.2.2.2 hs5; have b5 := H4.out.2.2.1.no hs45; have c5 := b5.at 1 (v := .slice (some ⟨bb, 0, none⟩) s.L.length c) rfl; have hrl5 := b5.lt; have HR5 := Lib.hid (And.intro hown5 (And.intro hs45 (And.intro hb5 (And.intro b5 (HD.out.no hs45))))); clear hown5 hs5 hb5 hs45 b5)
                  | (refine step_push_opt (by rfl) _ _ 54 88 (by rfl) Try.underlying54 _ 5 40 infoTr rfl (by decide) (by decide) w4.heap.size k _ (tmRow (s.L.take k)) (by rfl) HR5.out.1 A2 (s.L.length - (k + 1)) (c - (k + 1)) (tmRow (s.L.drop (k + 1))) (by rfl) (fun e => by obtain ⟨a, ha⟩ := HA3.out; rw [ha] at e; cases e) (by rw [tmRow_len, List.length_drop]) HR5.out.2.2.2.2 (tmRow_one _) (by omega) HR5.out.2.1.size ?_; intro A6 c6' w6 hown6 hs6 hb6; have hs46 := sm_fresh2 HR5.out.2.1 hs6 (fun b e => row_base HR5.out.1 e); have b6 := H4.out.2.2.1.no hs46; have c7 := b6.at 1 (v := .slice (some ⟨bb, 0, none⟩) s.L.length c) rfl; have f6 := b6.fz 1; have hrl6 := b6.lt; have HR6 := Lib.hid (And.intro hown6 (And.intro hs46 (And.intro hb6 b6))); clear hown6 hs6 hb6 hs46 b6)))
            all_goals
              clear i1 i2 i3 i4 hA2
              have HFin := Lib.hid (adv_round (v6 := .slice A6 (k + (s.L.length - (k + 1))) c6') HS.out.2.1 HS.out.2.2.1 HS.out.2.2.2.1 HS.out.2.2.2.2.2.1 HS.out.2.2.2.2.2.2.1 HS.out.2.2.2.2.2.2.2.1 HS.out.2.2.2.2.2.2.2.2.1 HS.out.2.2.2.2.2.2.2.2.2.2 HS.out.2.2.2.2.2.2.2.2.2.1 (fun b hb => HB.out.2.2.2.2.1 b (hb.elim Or.inl (fun e => Or.inr (Or.inl e)))) (fun b hb => (HB.out.2.2.2.1 b hb).1) HB.out.2.2.2.2.2.1 HI.out.1 H8.out.2.1 H8.out.1 H8.out.2.2.2.2.2 H4.out.2.1 H4.out.1 H4.out.2.2.1 HR6.out.2.1 HR6.out.1 HT.out.1 HT.out.2)
              go_wp2_with fail
              exact HFin.out
end Go.Proofs.Ytgmgjkafdkgalaa
