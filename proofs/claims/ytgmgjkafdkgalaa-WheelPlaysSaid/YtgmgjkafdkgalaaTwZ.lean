/- The document's Wheel (usherref6): gone, Cancel. -/
import Derived.Test.YtgmgjkafdkgalaaTwY
namespace Go.Proofs.Ytgmgjkafdkgalaa
open Go.RowKit Go.Proofs Go.Maps

/-- The document's Wheel r, whatever its timers and its Slab are to each other. -/
def Tw0 (w : World) (O : Nat → Prop) (r now ord : Nat) (sb : List Sl) (L : List Tm) : Prop :=
  ∃ (Os : Nat → Prop) (s : Nat) (v : Value), Bk w r 56 #[.pointer (some ⟨s, 0, none⟩), v, .int .i64 now, .int .i64 ord] ∧ RSl w Os s sb ∧ w.ownsRow 0 88 5 v L.length (tmRow L) ∧ (∀ b, Os b → b ≠ r ∧ v.ownBlock ≠ some b) ∧
    (∀ b, (Os b ∨ b = r ∨ v.ownBlock = some b) → O b) ∧ ∀ b, O b → b < w.heap.size
theorem IsTw.t0 {w : World} {O : Nat → Prop} {r : Nat} {st : St} (h : IsTw w O r st) : Tw0 w O r st.now st.ord st.sb st.L ∧ st.Ok := by
  obtain ⟨Os, s, v, h1, h2, h3, h4, h5, h6, h7⟩ := h
  exact ⟨⟨Os, s, v, h1, h2, h3, h4, h6, h7⟩, h5⟩
theorem Tw0.tw {w : World} {O : Nat → Prop} {r : Nat} {st : St} (h : Tw0 w O r st.now st.ord st.sb st.L) (o : st.Ok) : IsTw w O r st := by
  obtain ⟨Os, s, v, h1, h2, h3, h4, h6, h7⟩ := h
  exact ⟨Os, s, v, h1, h2, h3, h4, o, h6, h7⟩
theorem Tw0.sm {S O : Nat → Prop} {w w' : World} {r now ord : Nat} {sb : List Sl} {L : List Tm} (h : Tw0 w O r now ord sb L) (hs : Sm S w w') (hS : ∀ b, O b → ¬ S b) : Tw0 w' O r now ord sb L := by
  obtain ⟨Os, s, v, h1, h2, h3, h4, h6, h7⟩ := h
  exact ⟨Os, s, v, h1.sm hs (hS r (h6 r (Or.inr (Or.inl rfl)))), h2.sm hs (fun b hb => hS b (h6 b (Or.inl hb))), own_row_sm h3 hs (fun b hb => hS b (h6 b (Or.inr (Or.inr hb)))), h4, h6, fun b hb => Nat.lt_of_lt_of_le (h7 b hb) hs.size⟩
theorem Tw0.no {O : Nat → Prop} {w w' : World} {r now ord : Nat} {sb : List Sl} {L : List Tm} (h : Tw0 w O r now ord sb L) (hs : Sm No w w') : Tw0 w' O r now ord sb L := h.sm hs (fun _ _ h => h)
def T0Post (w : World) (O : Nat → Prop) (r now ord : Nat) (sb : List Sl) (L : List Tm) (w' : World) : Prop := ∃ O' : Nat → Prop, Tw0 w' O' r now ord sb L ∧ Sm O w w' ∧ ∀ b, O' b → O b ∨ w.heap.size ≤ b
theorem ok_in {st : St} (o : st.Ok) (ho : st.ord ≤ 90000) {t : Tm} (ht : t ∈ st.L) : okH t.h := by
  have h1 : isB st.sb t.h = true := by rw [o.inS]; exact hasT_mem.2 ⟨t, ht, rfl⟩
  obtain ⟨k, x, h2, h3, _, h5⟩ := isB_inv h1
  have hk : k < st.sb.length := (List.getElem?_eq_some_iff.1 h3).1
  have h6 := o.slots
  have h7 := o.gens x (List.mem_of_getElem? h3)
  exact ⟨wf_small (by omega) (by omega), wf_small (by omega) (by omega)⟩
def goneL (sb : List Sl) (L : List Tm) : List Tm := L.filter fun t => isB sb t.h
theorem goneL_le (sb : List Sl) (L : List Tm) : (goneL sb L).length ≤ L.length := List.length_filter_le _ _
theorem goneL_snoc {sb : List Sl} {L : List Tm} {k : Nat} {t : Tm} (h : L[k]? = some t) : goneL sb (L.take (k + 1)) = if isB sb t.h = true then goneL sb (L.take k) ++ [t] else goneL sb (L.take k) := by
  unfold goneL
  rw [List.take_add_one, h, List.filter_append]
  by_cases e : isB sb t.h = true <;> simp [e]
def GoneRel (w : World) (sb : List Sl) (L : List Tm) (v i : Value) (wr : World) : Prop :=
  ∃ k : Nat, k ≤ L.length ∧ i = .int .i64 k ∧ wr.ownsRow w.heap.size 88 5 v (goneL sb (L.take k)).length (tmRow (goneL sb (L.take k))) ∧ Sm No w wr
set_option maxRecDepth 100000 in
set_option maxHeartbeats 4000000 in
theorem gone_any (w : World) (O : Nat → Prop) (r now ord : Nat) (sb : List Sl) (L : List Tm) (hW : Tw0 w O r now ord sb L) (hl : L.length ≤ 100000) (ok : ∀ t ∈ L, okH t.h) :
    Calls Try.prog 43 #[.pointer (some ⟨r, 0, none⟩)] w fun e w' => e = .returned (.tuple #[]) ∧ T0Post w O r now ord sb (goneL sb L) w' := by
  obtain ⟨Os, s, v, h1, h2, h3, h4, h6, h7⟩ := id hW
  obtain ⟨A, c, rfl, hR, _⟩ := own_rowC h3
  have c0 := h1.at 0 (v := .pointer (some ⟨s, 0, none⟩)) rfl
  have c1 := h1.at 1 (v := .slice A L.length c) rfl
  have hrl := h1.lt
  have H := Lib.hid (And.intro h1 (And.intro h2 (And.intro hR (And.intro h4 (And.intro h6 (And.intro h7 ok))))))
  clear h1 h2 h3 h4 h6 h7 hR hW ok
  go_enter Try.func43, Try.ntmps43
  go_wp2_with fail
  go_loopw [2, 3] (fun v i wr => GoneRel w sb L v i wr) (fun _ i _ => L.length - (intOf i).toNat)
  case atStart => exact ⟨0, Nat.zero_le _, rfl, World.ownsRow_nil _ _ _ 5, Sm.refl _ _⟩
  case round =>
    obtain ⟨k, hk, rfl, hO, hs⟩ := hrel
    have hb := H.out.1.no hs
    have c0 := hb.at 0 (v := .pointer (some ⟨s, 0, none⟩)) rfl
    have c1 := hb.at 1 (v := .slice A L.length c) rfl
    have hrl := hb.lt
    have HO := Lib.hid (And.intro hO (And.intro hs hb))
    clear hO hs hb
    by_cases hlt : k < L.length
    · obtain ⟨t, ht⟩ : ∃ t, L[k]? = some t := ⟨_, List.getElem?_eq_getElem hlt⟩
      obtain ⟨t1, t2, t3, t4, t5⟩ := tmRow_at ht
      obtain ⟨bb, off, hAe, hbb, r0⟩ := (H.out.2.2.1.no HO.out.2.1).at t1
      subst hAe
      obtain ⟨_, _, hA1, _, r1⟩ := (H.out.2.2.1.no HO.out.2.1).at t2
      injection hA1 with hA1; injection hA1 with e1 e2; subst e1 e2
      obtain ⟨_, _, hA1, _, r2⟩ := (H.out.2.2.1.no HO.out.2.1).at t3
      injection hA1 with hA1; injection hA1 with e1 e2; subst e1 e2
      obtain ⟨_, _, hA1, _, r3⟩ := (H.out.2.2.1.no HO.out.2.1).at t4
      injection hA1 with hA1; injection hA1 with e1 e2; subst e1 e2
      obtain ⟨_, _, hA1, _, r4⟩ := (H.out.2.2.1.no HO.out.2.1).at t5
      injection hA1 with hA1; injection hA1 with e1 e2; subst e1 e2
      rw [show off + (k * 5 + 1) = off + k * 5 + 1 by omega] at r1
      rw [show off + (k * 5 + 2) = off + k * 5 + 2 by omega] at r2
      rw [show off + (k * 5 + 3) = off + k * 5 + 3 by omega] at r3
      have r4' := r4
      rw [show off + (k * 5 + 4) = off + k * 5 + 3 + 1 by omega] at r4
      rw [show off + (k * 5 + 4) = off + k * 5 + 4 by omega] at r4'
      have k1 : (0 : Int) ≤ (k : Int) := by omega
      have k2 : (k : Int) < (L.length : Int) := by omega
      have hokt := H.out.2.2.2.2.2.2 t (List.mem_of_getElem? ht)
      have hsn := goneL_snoc (sb := sb) ht
      have HT := Lib.hid (And.intro ht hsn)
      clear t1 t2 t3 t4 t5 ht hsn
      obtain ⟨b, hb⟩ : ∃ b, isB sb t.h = b := ⟨_, rfl⟩
      have hIs : ∀ W, Sm No w W → Calls Try.prog 50 #[.pointer (some ⟨s, 0, none⟩), .agg #[.int .i64 t.h.slot, .int .i64 t.h.gen]] W fun e w' => e = .returned (.bool b) ∧ Sm No W w' := fun W hW => by
        rw [← hb]; exact rsIs_any W Os s sb t.h (H.out.2.1.no hW) hokt
      have HB := Lib.hid hb
      have HIs := Lib.hid hIs
      clear hb hIs
      go_wp2_with fail
      go_region_held3 (fun w' => w'.cell? ⟨r, 0, none⟩ = some (.pointer (some ⟨s, 0, none⟩)) ∧ w'.cell? ⟨r, 1, none⟩ = some (.slice (some ⟨bb, off, none⟩) L.length c) ∧ w'.cell? ⟨bb, off + k * 5 + 3, none⟩ = some (.int .i64 t.h.slot) ∧ w'.cell? ⟨bb, off + k * 5 + 3 + 1, none⟩ = some (.int .i64 t.h.gen)) (first | exact ⟨c0, c1, r3, r4⟩ | exact ⟨c5, c6, r5, r6⟩)
        ((go_at_call 50; (with_reducible refine (HIs.out _ HO.out.2.1.drew).mono ?_); rintro e w4 ⟨rfl, hs4⟩; have hs5 := (Sm.refl No wr).drew.trans hs4 (fun _ _ h => h); have c5 := hs4.cell (by simpa using hrl) c0; have c6 := hs4.cell (by simpa using hrl) c1; have r5 := hs4.cell (by simpa using hbb) r3; have r6 := hs4.cell (by simpa using hbb) r4))
      all_goals
        have hgl := goneL_le sb (L.take k)
        rw [List.length_take] at hgl
        have hO4 := own_row_sm HO.out.1 hs5 (fun _ _ h => h)
        have hs04 := HO.out.2.1.trans hs5 (fun _ _ h => h)
        have hsz := hs04.size
        have HO4 := Lib.hid (And.intro hO4 (And.intro hs04 HB.out))
        have p0 := hs5.cell hbb r0
        have p1 := hs5.cell hbb r1
        have p2 := hs5.cell hbb r2
        have p3 := hs5.cell hbb r3
        have p4 := hs5.cell hbb r4'
        have hbb4 := Nat.lt_of_lt_of_le hbb hs5.size
        have hrl4 := Nat.lt_of_lt_of_le hrl hs5.size
        clear hO4 hs04 hs5 hs4 r5 r6
        cases b
        · have hn : goneL sb (L.take (k + 1)) = goneL sb (L.take k) := by rw [HT.out.2, HO4.out.2.2, if_neg (by simp)]
          have HN := Lib.hid hn
          clear hn
          go_wp2_with fail
          exact ⟨⟨k + 1, by omega, by go_num, by rw [HN.out]; exact HO4.out.1, HO4.out.2.1⟩, by simp [intOf]; omega⟩
        · have hn : goneL sb (L.take (k + 1)) = goneL sb (L.take k) ++ [t] := by rw [HT.out.2, HO4.out.2.2, if_pos rfl]
          have HN := Lib.hid hn
          clear hn
          go_wp2_with (refine wpList_push rfl _ _ 54 88 rfl Try.underlying54 _ 5 40 infoTr rfl (by decide) (by decide) w.heap.size _ u2 _ rfl (World.ownsRow.alloc HO4.out.1 _) w4.heap.size #[.int .i64 t.a, .int .i64 t.what, .int .i64 t.ord, .int .i64 t.h.slot, .int .i64 t.h.gen] rfl (Bk.new w4 _ _) rfl (by simp [Value.oneCell']) (by omega) (by simp; omega) ?_; intro v' w8 hown8 hs8 hv8)
          have hO9 : w8.ownsRow w.heap.size 88 5 v' (goneL sb (L.take (k + 1))).length (tmRow (goneL sb (L.take (k + 1)))) := by
            rw [HN.out, List.length_append, tmRow_snoc]
            exact hown8
          have hS9 : Sm No w w8 := (HO4.out.2.1.alloc (.cells #[.int .i64 t.a, .int .i64 t.what, .int .i64 t.ord, .int .i64 t.h.slot, .int .i64 t.h.gen] 88)).trans hs8 (fun b hb e => by
            have := (World.ownsRow.lt HO4.out.1 b e).1
            omega)
          have H9 := Lib.hid (And.intro hO9 hS9)
          clear hO9 hS9 hown8 hs8 hv8
          go_wp2_with fail
          exact ⟨⟨k + 1, by omega, by go_num, H9.out.1, H9.out.2⟩, by simp [intOf]; omega⟩
    · have ha : L.take k = L := List.take_of_length_le (by omega)
      have hO := HO.out.1
      rw [ha] at hO
      obtain ⟨M, hM⟩ : ∃ M, goneL sb L = M := ⟨_, rfl⟩
      rw [hM] at hO
      obtain ⟨A2, c2, rfl, _⟩ := own_rowC hO
      have f1 := HO.out.2.2.fz 1
      have HM := Lib.hid (And.intro hO hM)
      clear hO ha hM
      go_wp2_with fail
      go_end0
      rw [HM.out.2]
      obtain ⟨p1, p2, p3, p4, p6, p7, _⟩ := H.out
      have hs3 := (Sm.refl (fun b => b = r) wr).set1 1 (.slice A2 M.length c2)
      have hwr := HO.out.2.1.size
      have hnew : ∀ b, (Value.slice A2 M.length c2).ownBlock = some b → w.heap.size ≤ b := fun b e => (World.ownsRow.lt HM.out.1 b e).1
      have hrw := p1.lt
      refine ⟨rfl, fun b => O b ∨ (Value.slice A2 M.length c2).ownBlock = some b, ⟨Os, s, .slice A2 M.length c2, (HO.out.2.2.set 1 _).eq rfl, (p2.no HO.out.2.1).sm hs3 (fun b hb e => (p4 b hb).1 e), own_row_base (own_row_sm HM.out.1 hs3 (fun b e1 e2 => by have := hnew b e1; omega)) (fun b _ => Nat.zero_le b), fun b hb => ⟨(p4 b hb).1, fun e => by have := hnew b e; have := p7 b (p6 b (Or.inl hb)); omega⟩, fun b hb => ?_, fun b hb => ?_⟩, (HO.out.2.1.any _).trans hs3 (fun b _ e => p6 b (Or.inr (Or.inl e))), fun b hb => hb.imp id (hnew b)⟩
      · rcases hb with hb | hb | hb
        · exact Or.inl (p6 b (Or.inl hb))
        · exact Or.inl (p6 b (Or.inr (Or.inl hb)))
        · exact Or.inr hb
      · rcases hb with hb | hb
        · have := p7 b hb
          have := hs3.size
          omega
        · have := own_row_lt HM.out.1 hb
          have := hs3.size
          omega

theorem dropT_gone {st : St} (o : st.Ok) (h : Hd) : goneL (takeB st.sb h) st.L = dropT st.L h := by
  unfold goneL dropT
  apply List.filter_congr
  intro t ht
  unfold takeB
  rw [isB_takeP, o.inS, hasT_mem.2 ⟨t, ht, rfl⟩, Bool.true_and]
theorem dropT_none {st : St} {h : Hd} (hh : hasT st h = false) : dropT st.L h = st.L := by
  unfold dropT
  rw [List.filter_eq_self]
  intro t ht
  have : t.h ≠ h := fun e => by
    rw [hasT_mem.2 ⟨t, ht, e⟩] at hh
    cases hh
  simp [this]
/-- What one more of Cancel's Handles leaves. -/
theorem cancel1_none {st : St} (o : st.Ok) {h : Hd} (hh : hasT st h = false) : cancel1 st h = st := by
  unfold cancel1
  rw [dropT_none hh, takeB_not (by rw [o.inS]; exact hh)]
theorem cancelW_cons {st : St} (o : st.Ok) (h : Hd) (r : List Hd) : cancelW st (h :: r) = ((cancelW (cancel1 st h) r).1 + (if isB st.sb h = true then 1 else 0), (cancelW (cancel1 st h) r).2) := by
  rw [cancelW, o.inS]
  by_cases hh : hasT st h = true
  · rw [if_pos hh, if_pos hh]
  · rw [if_neg hh, if_neg hh, cancel1_none o (by simpa using hh), Int.add_zero]
theorem Sm.cellS {S : Nat → Prop} {w w' : World} (h : Sm S w w') {b o : Nat} (hb : b < w.heap.size) (hS : ¬ S b) : w'.cell? ⟨b, o, none⟩ = w.cell? ⟨b, o, none⟩ :=
  World.cell?_of_block (w := w) (a := ⟨b, o, none⟩) (h.block b hb hS)
def TCanRel (w : World) (O : Nat → Prop) (r : Nat) (st : St) (hs : List Hd) (RC : Int × St) (n i : Value) (wr : World) : Prop :=
  ∃ (k : Nat) (m : Int) (s : St) (O' : Nat → Prop), k ≤ hs.length ∧ i = .int .i64 k ∧ n = .int .i64 m ∧ 0 ≤ m ∧ m ≤ k ∧ IsTw wr O' r s ∧ s.ord = st.ord ∧ Sm O w wr ∧ (∀ b, O' b → O b ∨ w.heap.size ≤ b) ∧ RC = (m + (cancelW s (hs.drop k)).1, (cancelW s (hs.drop k)).2)
set_option maxRecDepth 100000 in
set_option maxHeartbeats 4000000 in
theorem twcancel_any (w : World) (O : Nat → Prop) (r : Nat) (st : St) (A : Option Addr) (c : Nat) (hs : List Hd) (hW : IsTw w O r st) (hA : RowC w A (hCells hs)) (hAO : ∀ a, A = some a → ¬ O a.block) (hl : hs.length ≤ 1000000) (ok : ∀ h ∈ hs, okH h) (ho : st.ord ≤ 4000) :
    Calls Try.prog 24 #[.pointer (some ⟨r, 0, none⟩), .slice A hs.length c] w fun e w' => e = .returned (.int .i64 (cancelW st hs).1) ∧ TPost w O r (cancelW st hs).2 w' := by
  have H := Lib.hid (And.intro hW (And.intro hA (And.intro hAO ok)))
  obtain ⟨RC, hRC⟩ : ∃ RC, cancelW st hs = RC := ⟨_, rfl⟩
  rw [hRC]
  have HRC := Lib.hid hRC
  clear hW hA hAO ok hRC
  go_enter Try.func24, Try.ntmps24
  go_wp2_with fail
  go_loopw [5, 6] (fun n i wr => TCanRel w O r st hs RC n i wr) (fun _ i _ => hs.length - (intOf i).toNat)
  case atStart => exact ⟨0, 0, st, O, Nat.zero_le _, rfl, rfl, by omega, by omega, H.out.1, rfl, Sm.refl _ _, fun _ h => Or.inl h, by rw [← HRC.out]; simp⟩
  case round =>
    obtain ⟨k, m, s, O', hk, rfl, rfl, hm0, hmk, hT, hord, hsm, hO', hRC⟩ := hrel
    by_cases hlt : k < hs.length
    · obtain ⟨h, hh⟩ : ∃ h, hs[k]? = some h := ⟨_, List.getElem?_eq_getElem hlt⟩
      obtain ⟨t1, t2⟩ := hCells_at hh
      obtain ⟨bb, off, hAe, hbb, r0⟩ := (H.out.2.1.sm hsm H.out.2.2.1).at t1
      subst hAe
      obtain ⟨_, _, hA1, _, r1⟩ := (H.out.2.1.sm hsm H.out.2.2.1).at t2
      injection hA1 with hA1; injection hA1 with e1 e2; subst e1 e2
      rw [show off + (k * 2 + 1) = off + k * 2 + 1 by omega] at r1
      have hbw : bb < w.heap.size := by
        obtain ⟨_, _, hA1, h0, _⟩ := H.out.2.1.at t1
        injection hA1 with hA1; injection hA1 with hA1; omega
      have hbO : ¬ O' bb := fun e => by
        rcases hO' bb e with e | e
        · exact H.out.2.2.1 _ rfl e
        · omega
      have hokh := H.out.2.2.2 h (List.mem_of_getElem? hh)
      obtain ⟨⟨Os, sl, v, b1, b2, b3, b4, b5, b6⟩, hok⟩ := hT.t0
      have c0 := b1.at 0 (v := .pointer (some ⟨sl, 0, none⟩)) rfl
      have hrl := b1.lt
      have hsl : s.sb.length ≤ 1000000 := by have := hok.slots; omega
      have hLl : s.L.length ≤ 100000 := by have := hok.len; omega
      have hdrop : hs.drop k = h :: hs.drop (k + 1) := by
        rw [List.drop_eq_getElem_cons hlt]
        rw [List.getElem?_eq_getElem hlt] at hh
        injection hh with hh
        rw [hh]
      rw [hdrop, cancelW_cons hok] at hRC
      have hTk := rsTake_any (wr.alloc (.cells #[.int .i64 h.slot, .int .i64 h.gen] 29)).drew Os sl s.sb h (b2.no ((Sm.refl No wr).alloc _).drew) hokh wr.heap.size 0 1 (fun j u hj => ⟨wr.heap.size, 0, rfl, by simp, by
        rw [Nat.zero_add]
        exact (Bk.new wr 29 #[.int .i64 h.slot, .int .i64 h.gen]).at j (by simpa using hj)⟩) hsl
      obtain ⟨q, hq⟩ : ∃ q : Int, (if isB s.sb h = true then 1 else 0) = q := ⟨_, rfl⟩
      have hq1 : 0 ≤ q ∧ q ≤ 1 := by rw [← hq]; split <;> omega
      rw [hq] at hTk hRC
      have k1 : (0 : Int) ≤ (k : Int) := by omega
      have k2 : (k : Int) < (hs.length : Int) := by omega
      have HS := Lib.hid (And.intro hT (And.intro hord (And.intro hsm (And.intro hO' (And.intro hRC (And.intro hok (And.intro b1 (And.intro b2 (And.intro b3 (And.intro b4 (And.intro b5 b6)))))))))))
      have HTk := Lib.hid hTk
      clear hT hord hsm hO' hRC hok b1 b2 b3 b4 b5 b6 hTk hdrop hh t1 t2 hq
      go_wp2_with fail
      go_region_held3 (fun w' => w'.cell? ⟨r, 0, none⟩ = some (.pointer (some ⟨sl, 0, none⟩)) ∧ w'.cell? ⟨bb, off + k * 2, none⟩ = some (.int .i64 h.slot) ∧ w'.cell? ⟨bb, off + k * 2 + 1, none⟩ = some (.int .i64 h.gen)) (first | exact ⟨c0, r0, r1⟩ | (refine ⟨?_, ?_, ?_⟩ <;> assumption) | go_keep)
        ((go_at_call 42; (with_reducible refine HTk.out.mono ?_); rintro e w4 ⟨rfl, hR4, hs4⟩; have b4 := ((HS.out.2.2.2.2.2.2.1.alloc (.cells #[.int .i64 h.slot, .int .i64 h.gen] 29)).drew).sm hs4 (fun e => (HS.out.2.2.2.2.2.2.2.2.2.1 r e).1 rfl); have c5 := b4.at 0 (v := .pointer (some ⟨sl, 0, none⟩)) rfl; have s4 := (((Sm.refl Os wr).alloc (.cells #[.int .i64 h.slot, .int .i64 h.gen] 29)).drew).trans hs4 (fun _ _ h => h); have hbOs : ¬ Os bb := fun e => hbO (HS.out.2.2.2.2.2.2.2.2.2.2.1 bb (Or.inl e)); have r5 := (s4.cellS hbb hbOs).trans r0; have r6 := (s4.cellS hbb hbOs).trans r1))
      all_goals
        obtain ⟨m2, hm2⟩ : ∃ m2, m + q = m2 := ⟨_, rfl⟩
        have hT4 : Tw0 w4 O' r s.now s.ord (takeB s.sb h) s.L := ⟨Os, sl, v, b4, hR4, own_row_sm HS.out.2.2.2.2.2.2.2.2.1 s4 (fun b e1 e2 => (HS.out.2.2.2.2.2.2.2.2.2.1 b e2).2 e1), HS.out.2.2.2.2.2.2.2.2.2.1, HS.out.2.2.2.2.2.2.2.2.2.2.1, fun b hb => Nat.lt_of_lt_of_le (HS.out.2.2.2.2.2.2.2.2.2.2.2 b hb) s4.size⟩
        have hgo := gone_any w4 O' r s.now s.ord (takeB s.sb h) s.L hT4 hLl (fun t ht => ok_in HS.out.2.2.2.2.2.1 (by have := HS.out.2.1; omega) ht)
        rw [dropT_gone HS.out.2.2.2.2.2.1] at hgo
        have hs04 : Sm O w w4 := HS.out.2.2.1.trans s4 (fun b hb e => (HS.out.2.2.2.1 b (HS.out.2.2.2.2.2.2.2.2.2.2.1 b (Or.inl e))).elim id (fun e => by omega))
        have H4 := Lib.hid (And.intro hgo hs04)
        have HM := Lib.hid hm2
        clear b4 c5 s4 hbOs r5 r6 hT4 hgo hs04 hR4 hs4
        go_wp2_with fail
        refine H4.out.1.mono ?_
        rintro e w5 ⟨rfl, O5, hT5, hs5, hO5⟩
        have hw4 := H4.out.2.size
        have hs05 : Sm O w w5 := H4.out.2.trans hs5 (fun b hb e => (HS.out.2.2.2.1 b e).elim id (fun e => by omega))
        have hok5 : (cancel1 s h).Ok := cancel1_ok HS.out.2.2.2.2.2.1 h
        have hT6 : IsTw w5 O5 r (cancel1 s h) := Tw0.tw (st := cancel1 s h) hT5 hok5
        have hO6 : ∀ b, O5 b → O b ∨ w.heap.size ≤ b := fun b hb => by
          rcases hO5 b hb with e | e
          · exact HS.out.2.2.2.1 b e
          · right; omega
        have H5 := Lib.hid (And.intro hT6 (And.intro hs05 hO6))
        have hRC := HS.out.2.2.2.2.1
        have HC := Lib.hid hRC
        clear hT5 hs5 hO5 hs05 hok5 hT6 hO6 hRC
        have e64 : IntKind.i64.wrap (m + q) = m + q := by rw [IntKind.wrap_i64]; omega
        rw [e64]
        go_wp2_with fail
        exact ⟨⟨k + 1, m2, cancel1 s h, O5, by omega, by go_num, rfl, by omega, by omega, H5.out.1, HS.out.2.1, H5.out.2.1, H5.out.2.2, by rw [HC.out, ← HM.out]; congr 1; omega⟩, by simp [intOf]; omega⟩
    · have hd : hs.drop k = [] := List.drop_eq_nil_of_le (by omega)
      rw [hd] at hRC
      have HF := Lib.hid (And.intro hRC (And.intro hT (And.intro hsm hO')))
      clear hRC hT hsm hO' hd
      go_wp2_with fail
      go_ret
      rw [HF.out.1]
      refine ⟨?_, O', HF.out.2.1, HF.out.2.2.1, HF.out.2.2.2⟩
      show Ending.returned (.int .i64 m) = .returned (.int .i64 (m + 0))
      rw [Int.add_zero]
end Go.Proofs.Ytgmgjkafdkgalaa
