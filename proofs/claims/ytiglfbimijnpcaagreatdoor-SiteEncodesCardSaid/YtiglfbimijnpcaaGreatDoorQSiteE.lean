/- The document's Site; its New. -/
import Derived.Test.YtiglfbimijnpcaaGreatDoorQSiteD
import Derived.Test.YtiglfbimijnpcaaGreatDoorQU
import Derived.Test.YtiglfbimijnpcaaGreatDoorQTwinD
import Derived.Test.YtiglfbimijnpcaaGreatDoorQT
namespace Go.Proofs.YtiglfbimijnpcaaGreatDoor
open Go.RowKit Go.Proofs

theorem IsTwin.ltO {tt : TypeId} {tl : List Value} {w : World} {O : Nat → Prop} {r : Nat} {L : List Lt} (h : IsTwin tt tl w O r L) : ∀ b, O b → b < w.heap.size := by
  obtain ⟨_, _, _, _, _, _, _, _, _, h, _⟩ := h
  exact h
theorem IsTwin.own {tt : TypeId} {tl : List Value} {w : World} {O : Nat → Prop} {r : Nat} {L : List Lt} (h : IsTwin tt tl w O r L) : O r := by
  obtain ⟨_, _, _, _, _, _, h, _⟩ := h
  exact h
/-- A block that begins with a Router of the document's, made behind world w; the blocks of K are none of its. -/
def OwnX (w w1 : World) (K : Nat → Prop) (tt : TypeId) (tl : List Value) (r : Nat) (L : List Lt) : Prop := ∃ O, IsTwin tt tl w1 O r L ∧ Sm No w w1 ∧ (∀ b, O b → w.heap.size ≤ b) ∧ ∀ b, K b → b < w1.heap.size ∧ ¬ O b
section
variable {w w1 w2 : World} {K : Nat → Prop} {tt : TypeId} {tl : List Value} {r : Nat} {L : List Lt}
theorem OwnX.no (h : OwnX w w1 K tt tl r L) (hs : Sm No w1 w2) : OwnX w w2 K tt tl r L := by
  obtain ⟨O, h1, h2, h3, h4⟩ := h
  exact ⟨O, h1.no hs, h2.trans hs (fun _ _ h => h), h3, fun b hb => ⟨Nat.lt_of_lt_of_le (h4 b hb).1 hs.size, (h4 b hb).2⟩⟩
theorem OwnX.more (h : OwnX w w1 K tt tl r L) (hs : Sm No w1 w2) {K2 : Nat → Prop} (hK : ∀ b, K2 b → (K b ∨ w1.heap.size ≤ b) ∧ b < w2.heap.size) : OwnX w w2 K2 tt tl r L := by
  obtain ⟨O, h1, h2, h3, h4⟩ := h
  refine ⟨O, h1.no hs, h2.trans hs (fun _ _ h => h), h3, fun b hb => ⟨(hK b hb).2, fun e => ?_⟩⟩
  rcases (hK b hb).1 with hb | hb
  · exact (h4 b hb).2 e
  · have := h1.ltO b e; omega
theorem OwnX.sm (h : OwnX w w1 K tt tl r L) : Sm No w w1 := by
  obtain ⟨_, _, h, _⟩ := h
  exact h
theorem OwnX.cell (h : OwnX w w1 K tt tl r L) : r < w1.heap.size ∧ ∃ A c, w1.cell? ⟨r, 0, none⟩ = some (.slice A L.length c) ∧ ∀ k (x : Lt), L[k]? = some x → ∃ g, A = some ⟨g, 0, none⟩ ∧ g < w1.heap.size ∧ w1.cell? ⟨g, k * 3, none⟩ = some (strB x.pat) := by
  obtain ⟨O, ⟨v, l, hT⟩, _⟩ := h
  obtain ⟨A, c, rfl⟩ := hT.form
  refine ⟨hT.1.lt, A, c, hT.1.at 0 (by simp), fun k x hx => ?_⟩
  obtain ⟨hk, e⟩ := List.getElem?_eq_some_iff.1 hx
  obtain ⟨g, A2, c2, hAe, r0, _⟩ := hT.get hk
  rw [e] at r0
  exact ⟨g, hAe, World.block_lt_of_cell? _ _ r0, r0⟩
theorem OwnX.old (h : OwnX w w1 K tt tl r L) {K2 : Nat → Prop} (hK : ∀ b, K2 b → K b ∨ b < w.heap.size) : OwnX w w1 K2 tt tl r L := by
  obtain ⟨O, h1, h2, h3, h4⟩ := h
  refine ⟨O, h1, h2, h3, fun b hb => ?_⟩
  rcases hK b hb with hb | hb
  · exact h4 b hb
  · exact ⟨Nat.lt_of_lt_of_le hb h2.size, fun e => by have := h3 b e; omega⟩
theorem Sm.cellS {S : Nat → Prop} {w w1 : World} (h : Sm S w w1) {b o : Nat} (hb : b < w.heap.size) (hS : ¬ S b) {v : Value} (hc : w.cell? ⟨b, o, none⟩ = some v) : w1.cell? ⟨b, o, none⟩ = some v :=
  (World.cell?_of_block (w := w) (a := ⟨b, o, none⟩) (h.block b hb hS)).trans hc
theorem addX_own {s : ByteArray} {id : Int} {A : Option Addr} {c : Nat} {ms : List Txt} (h : OwnX w w1 K tt tl r L) (hL : Fine L) (hs : s.size ≤ 800000) (hA : RowC w1 A (ms.map strV)) (hn : A = none → c = 0) (hml : ms.length ≤ 4000) (hms : ∀ t ∈ ms, t.length ≤ 1000000) :
    Calls Tryz.prog 30 #[.pointer (some ⟨r, 0, none⟩), .string s, .int .i64 id, .slice A ms.length c] w1 fun e w2 => e = .returned (.int .i64 (addC L ⟨txt s, id, ms⟩)) ∧ OwnX w w2 K tt tl r (addS L ⟨txt s, id, ms⟩) ∧ Sm (fun b => ¬ K b) w1 w2 := by
  obtain ⟨O, h1, h2, h3, h4⟩ := h
  refine (radd_any w1 O r L s id A c ms h1 hL.1 (fun x hx => hL.2 x hx) (by omega) hA hn (by omega) hms).mono ?_
  rintro e w2 ⟨he, O', g1, g2, g3⟩
  refine ⟨he, ⟨O', g1, h2.fresh g2 h3, fun b hb => ?_, fun b hb => ⟨Nat.lt_of_lt_of_le (h4 b hb).1 g2.size, fun e => ?_⟩⟩, g2.mono (fun b _ e hk => (h4 b hk).2 e)⟩
  · rcases g3 b hb with g | g
    · exact h3 b g
    · exact Nat.le_trans h2.size g
  · rcases g3 b e with g | g
    · exact (h4 b hb).2 g
    · have := (h4 b hb).1; omega
end
/-- The document's Site of the table T; its blocks are of O. -/
def IsSiteX (w : World) (O : Nat → Prop) (x : Nat) (T : List Ent) : Prop :=
  ∃ (Q : Nat → Prop) (vT : Value), IsTwin 75 [vT] w Q x (routesL T) ∧ OwnE w 0 vT T ∧ (∀ b, (Q b ∨ vT.ownBlock = some b) → O b) ∧ ∀ b, O b → b < w.heap.size
theorem IsSiteX.sm {S O : Nat → Prop} {w w' : World} {s : Nat} {T : List Ent} (h : IsSiteX w O s T) (hs : Sm S w w') (hS : ∀ b, O b → ¬ S b) : IsSiteX w' O s T := by
  obtain ⟨Q, vT, h1, h3, h4, h5⟩ := h
  exact ⟨Q, vT, h1.sm hs (fun b hb => hS b (h4 b (Or.inl hb))), own_row_sm h3 hs (fun b hb => hS b (h4 b (Or.inr hb))), h4, fun b hb => Nat.lt_of_lt_of_le (h5 b hb) hs.size⟩
theorem IsSiteX.no {O : Nat → Prop} {w w' : World} {s : Nat} {T : List Ent} (h : IsSiteX w O s T) (hs : Sm No w w') : IsSiteX w' O s T := h.sm hs (fun _ _ h => h)
def NewPostX (w : World) (T : List Ent) (e : Ending) (w' : World) : Prop :=
  (siteC T = 0 ∧ ∃ s O, e = .returned (.tuple #[.pointer (some ⟨s, 0, none⟩), .int .i64 0]) ∧ IsSiteX w' O s T ∧ Sm No w w' ∧ ∀ b, O b → w.heap.size ≤ b) ∨
  (siteC T ≠ 0 ∧ e = .returned (.tuple #[.pointer none, .int .i64 (siteC T)]) ∧ Sm No w w')
theorem sitex_none {T : List Ent} {w w' : World} (h : tableB T = false) (hs : Sm No w w') : NewPostX w T (.returned (.tuple #[.pointer none, .int .i64 1])) w' := by
  have e : siteC T = 1 := by unfold siteC; rw [if_neg (by rw [h]; decide)]
  exact Or.inr ⟨by rw [e]; decide, by rw [e], hs⟩
theorem sitex_twice {T : List Ent} {w w' : World} (h : tableB T = true) (h2 : apartB T = false) (hs : Sm No w w') : NewPostX w T (.returned (.tuple #[.pointer none, .int .i64 11])) w' := by
  have e : siteC T = 11 := by unfold siteC; rw [if_pos h, if_neg (by rw [h2]; decide)]
  exact Or.inr ⟨by rw [e]; decide, by rw [e], hs⟩
theorem rPlain_say {s : ByteArray} {b : Bool} (h : Hid (plainL (txt s) = b)) (hs : s.size ≤ 800000) (w : World) : Calls Tryz.prog 27 #[.string s] w fun e w' => e = .returned (.bool b) ∧ Sm No w w' := by
  rw [← h.out]; exact plain_any s (by omega) w
theorem allE_true {x : Ent} (a : plainL (txt x.path) = true) (b : x.type.size ≠ 0) (c : x.type.size ≤ 100) (d : valL (txt x.type) = true) (e : trimL (txt x.type) = txt x.type) (f : x.data.size ≤ 2048) : entB x = true := by
  have b2 : (txt x.type).isEmpty = false := by
    cases h : txt x.type with
    | nil => exact absurd (by rw [← txt_len, h]; rfl) b
    | cons => rfl
  unfold entB
  simp [a, b2, d, e, txt_len, c, f]
theorem allE_false {x : Ent} (h : entB x = true) : plainL (txt x.path) = true ∧ x.type.size ≠ 0 ∧ x.type.size ≤ 100 ∧ valL (txt x.type) = true ∧ trimL (txt x.type) = txt x.type ∧ x.data.size ≤ 2048 := by
  unfold entB at h
  simp only [Bool.and_eq_true, decide_eq_true_eq, beq_iff_eq, txt_len] at h
  obtain ⟨a, b, c, d, e, f⟩ := h
  refine ⟨a, fun h0 => ?_, c, d, e, f⟩
  have : txt x.type = [] := List.eq_nil_of_length_eq_zero (by rw [txt_len]; exact h0)
  rw [this] at b
  cases b
theorem entB_not {x : Ent} (h : ¬ (plainL (txt x.path) = true ∧ x.type.size ≠ 0 ∧ x.type.size ≤ 100 ∧ valL (txt x.type) = true ∧ trimL (txt x.type) = txt x.type ∧ x.data.size ≤ 2048)) : entB x = false := by
  cases hb : entB x with
  | false => rfl
  | true => exact absurd (allE_false hb) h
theorem take_allL {l : List Lt} {p : Lt → Prop} {k : Nat} {x : Lt} (h : ∀ y ∈ l.take k, p y) (hk : l[k]? = some x) (hp : p x) : ∀ y ∈ l.take (k + 1), p y := takeE_all h hk hp
def SxR2 (w : World) (T : List Ent) (s : Nat) (AT : Option Addr) (cT : Nat) (i : Value) (wr : World) : Prop :=
  ∃ k : Nat, k ≤ T.length ∧ i = .int .i64 k ∧ OwnX w wr (fun b => (Value.slice AT T.length cT).ownBlock = some b) 75 [.slice AT T.length cT] s (routesL (T.take k)) ∧ OwnE wr 0 (.slice AT T.length cT) T ∧ ApR T k
def SxR3 (w : World) (L : List Lt) (p : Txt) (i : Value) (wr : World) : Prop := ∃ k : Nat, k ≤ L.length ∧ i = .int .i64 k ∧ (∀ y ∈ L.take k, y.pat ≠ p) ∧ Sm No w wr
theorem addEX_say {w w1 : World} {K : Nat → Prop} {r k b : Nat} {tt : TypeId} {tl : List Value} {T : List Ent} {x : Ent} {cd : Int} {L' : List Lt} (hc : Hid (addC (routesL T) (entLt k x) = cd)) (hS : Hid (addS (routesL T) (entLt k x) = L')) (h : OwnX w w1 K tt tl r (routesL T)) (hT : T.length ≤ 40) (hs : x.path.size ≤ 800000) (hb : Bk w1 b 9 #[.string ⟨#[71, 69, 84]⟩]) :
    Calls Tryz.prog 30 #[.pointer (some ⟨r, 0, none⟩), .string x.path, .int .i64 (10 + (k : Int)), .slice (some ⟨b, 0, none⟩) 1 1] w1 fun e w2 => e = .returned (.int .i64 cd) ∧ OwnX w w2 K tt tl r L' ∧ Sm (fun b => ¬ K b) w1 w2 := by
  have e : (⟨txt x.path, 10 + (k : Int), [[71, 69, 84]]⟩ : Lt) = entLt k x := by
    unfold entLt
    congr 1
  have := addX_own (w := w) (A := some ⟨b, 0, none⟩) (c := 1) (s := x.path) (id := 10 + (k : Int)) (ms := [[71, 69, 84]]) h (fine_routes hT) hs (rowC_bk hb) (fun e => by cases e) (by decide) (by decide)
  rw [e, hc.out, hS.out] at this
  exact this
set_option maxRecDepth 100000 in
set_option maxHeartbeats 8000000 in
theorem snewx_any (w : World) (A : Option Addr) (c : Nat) (T : List Ent) (hA : RowC w A (entCells T)) (h0 : A = none → T.length = 0 ∧ c = 0) (hl : T.length ≤ 1000000) (hsm : SmallE T) :
    Calls Tryz.prog 10 #[.slice A T.length c] w (NewPostX w T) := by
  have HA := Lib.hid (And.intro hA (And.intro h0 hsm))
  clear hA h0 hsm
  by_cases h40 : 40 < T.length
  · have HE := Lib.hid (sitex_none (w := w) (w' := w) (T := T) (by
      cases ht : tableB T with
      | false => rfl
      | true => have := table_len ht; omega) (Sm.refl _ _))
    go_enter Tryz.func10, Tryz.ntmps10
    go_wp2_with fail
    go_ret2
    exact HE.out
  · go_enter Tryz.func10, Tryz.ntmps10
    go_wp2_with fail
    go_loopw [4] (fun i wr => SnR1 w T i wr) (fun i _ => T.length - (intOf i).toNat)
    case atStart => exact ⟨0, Nat.zero_le _, rfl, by simp, Sm.refl _ _⟩
    case round =>
      obtain ⟨k, hk, rfl, hall, hs⟩ := hrel
      have HS := Lib.hid (And.intro hs hall)
      clear hs hall
      by_cases hlt : k < T.length
      · obtain ⟨x, hx⟩ : ∃ x, T[k]? = some x := ⟨_, List.getElem?_eq_getElem hlt⟩
        obtain ⟨t1, t2, t3⟩ := entCells_at hx
        obtain ⟨bb, off, hAe, hbb, r0⟩ := (HA.out.1.no HS.out.1).at t1
        subst hAe
        obtain ⟨_, _, hA1, _, r1⟩ := (HA.out.1.no HS.out.1).at t2
        injection hA1 with hA1; injection hA1 with e1 e2; subst e1 e2
        obtain ⟨_, _, hA1, _, r2⟩ := (HA.out.1.no HS.out.1).at t3
        injection hA1 with hA1; injection hA1 with e1 e2; subst e1 e2
        rw [show off + (k * 3 + 1) = off + k * 3 + 1 by omega] at r1
        rw [show off + (k * 3 + 2) = off + k * 3 + 2 by omega] at r2
        have k1 : (0 : Int) ≤ (k : Int) := by omega
        have k2 : (k : Int) < (T.length : Int) := by omega
        obtain ⟨s1, s2, s3⟩ := HA.out.2.2 x (List.mem_of_getElem? hx)
        have HX := Lib.hid hx
        clear hx t1 t2 t3
        obtain ⟨p, t, d⟩ := x
        dsimp only at r0 r1 r2 s1 s2 s3
        go_wp2_with fail
        have d0 : ∀ x : ExtW (wr.alloc (.cells #[.string p, .string t, .string d] 56)), x.w.cell? ⟨wr.heap.size, 0, none⟩ = some (.string p) := fun x => x.cell (by simp) ((Bk.new wr _ _).at 0 rfl)
        have d1 : ∀ x : ExtW (wr.alloc (.cells #[.string p, .string t, .string d] 56)), x.w.cell? ⟨wr.heap.size, 1, none⟩ = some (.string t) := fun x => x.cell (by simp) ((Bk.new wr _ _).at 1 rfl)
        have d2 : ∀ x : ExtW (wr.alloc (.cells #[.string p, .string t, .string d] 56)), x.w.cell? ⟨wr.heap.size, 2, none⟩ = some (.string d) := fun x => x.cell (by simp) ((Bk.new wr _ _).at 2 rfl)
        have HS4 := Lib.hid (HS.out.1.alloc (.cells #[.string p, .string t, .string d] 56))
        obtain ⟨pb, hpb⟩ : ∃ pb, plainL (txt p) = pb := ⟨_, rfl⟩
        have HPl := Lib.hid hpb
        obtain ⟨vl, hvl⟩ : ∃ vl, valL (txt t) = vl := ⟨_, rfl⟩
        have HVl := Lib.hid (show valL t.data.toList = vl from hvl)
        have ht : t.size ≤ 1000000 := by omega
        obtain ⟨r, hr⟩ : ∃ r, (⟨(trimL t.data.toList).toArray⟩ : ByteArray) = r := ⟨_, rfl⟩
        have HTr := Lib.hid hr
        have hq : trimL (txt t) = txt t ↔ (r.toList == t.toList) = true := by
          rw [← hr, ByteArray.toList_eq, ByteArray.toList_eq, beq_iff_eq]
          rfl
        clear r0 r1 r2
        cases pb with
        | false =>
          have HB := Lib.hid (entB_not (x := ⟨p, t, d⟩) (fun h => by rw [hpb] at h; cases h.1))
          refine wp_region_ext_lit (by kernel_rfl) (by kernel_rfl) ?_
          repeat (go_big_quiet_step ((first
            | (go_at_call 27; exact Calls.ext (rPlain_say HPl s1 _))
            | (go_at_call 28; exact Calls.ext_eq (rIsValue_say HVl ht _))
            | (go_at_call 29; exact Calls.ext_eq (rTrim_say HTr ht _)))))
          refine wpQuiet_nil ?_
          intro _ hw'
          obtain ⟨⟨w3, hs3⟩, hw''⟩ := hw'
          subst hw''
          clear d0 d1 d2
          have HE := Lib.hid (sitex_none (w := w) (table_not (List.mem_of_getElem? HX.out) HB.out) (HS4.out.trans hs3 (fun _ _ h => h)))
          clear hs3
          go_wp2_with fail
          go_ret2
          exact HE.out
        | true =>
          by_cases q2 : t.size = 0
          · have e2 : t.toList = [] := by
              rw [ByteArray.toList_eq]
              exact List.eq_nil_of_length_eq_zero (by have := txt_len t; unfold txt at this; omega)
            have HB := Lib.hid (entB_not (x := ⟨p, t, d⟩) (fun h => h.2.1 q2))
            refine wp_region_ext_lit (by kernel_rfl) (by kernel_rfl) ?_
            repeat (go_big_quiet_step ((first
              | (go_at_call 27; exact Calls.ext (rPlain_say HPl s1 _))
              | (go_at_call 28; exact Calls.ext_eq (rIsValue_say HVl ht _))
              | (go_at_call 29; exact Calls.ext_eq (rTrim_say HTr ht _)))))
            refine wpQuiet_nil ?_
            intro _ hw'
            obtain ⟨⟨w3, hs3⟩, hw''⟩ := hw'
            subst hw''
            clear d0 d1 d2
            have HE := Lib.hid (sitex_none (w := w) (table_not (List.mem_of_getElem? HX.out) HB.out) (HS4.out.trans hs3 (fun _ _ h => h)))
            clear hs3
            go_wp2_with fail
            go_ret2
            exact HE.out
          have e2 : ¬ t.toList = [] := fun e => by
            rw [ByteArray.toList_eq] at e
            have := txt_len t
            unfold txt at this
            rw [e] at this
            exact q2 this.symm
          have e2b : t.toList.isEmpty = false := by cases h : t.toList with
            | nil => exact absurd h e2
            | cons => rfl
          by_cases q3 : t.size ≤ 100
          rotate_left
          · have e3 : (100 : Int) < (t.size : Int) := by omega
            have HB := Lib.hid (entB_not (x := ⟨p, t, d⟩) (fun h => q3 h.2.2.1))
            refine wp_region_ext_lit (by kernel_rfl) (by kernel_rfl) ?_
            repeat (go_big_quiet_step ((first
              | (go_at_call 27; exact Calls.ext (rPlain_say HPl s1 _))
              | (go_at_call 28; exact Calls.ext_eq (rIsValue_say HVl ht _))
              | (go_at_call 29; exact Calls.ext_eq (rTrim_say HTr ht _)))))
            refine wpQuiet_nil ?_
            intro _ hw'
            obtain ⟨⟨w3, hs3⟩, hw''⟩ := hw'
            subst hw''
            clear d0 d1 d2
            have HE := Lib.hid (sitex_none (w := w) (table_not (List.mem_of_getElem? HX.out) HB.out) (HS4.out.trans hs3 (fun _ _ h => h)))
            clear hs3
            go_wp2_with fail
            go_ret2
            exact HE.out
          have e3 : ¬ (100 : Int) < (t.size : Int) := by omega
          have e3b : (t.size : Int) ≤ 100 := by omega
          cases vl with
          | false =>
            have HB := Lib.hid (entB_not (x := ⟨p, t, d⟩) (fun h => by rw [hvl] at h; cases h.2.2.2.1))
            refine wp_region_ext_lit (by kernel_rfl) (by kernel_rfl) ?_
            repeat (go_big_quiet_step ((first
              | (go_at_call 27; exact Calls.ext (rPlain_say HPl s1 _))
              | (go_at_call 28; exact Calls.ext_eq (rIsValue_say HVl ht _))
              | (go_at_call 29; exact Calls.ext_eq (rTrim_say HTr ht _)))))
            refine wpQuiet_nil ?_
            intro _ hw'
            obtain ⟨⟨w3, hs3⟩, hw''⟩ := hw'
            subst hw''
            clear d0 d1 d2
            have HE := Lib.hid (sitex_none (w := w) (table_not (List.mem_of_getElem? HX.out) HB.out) (HS4.out.trans hs3 (fun _ _ h => h)))
            clear hs3
            go_wp2_with fail
            go_ret2
            exact HE.out
          | true =>
            obtain ⟨eq, heq⟩ : ∃ eq, (r.toList == t.toList) = eq := ⟨_, rfl⟩
            cases eq with
            | false =>
              have HB := Lib.hid (entB_not (x := ⟨p, t, d⟩) (fun h => by have := hq.1 h.2.2.2.2.1; rw [heq] at this; cases this))
              refine wp_region_ext_lit (by kernel_rfl) (by kernel_rfl) ?_
              repeat (go_big_quiet_step ((first
                | (go_at_call 27; exact Calls.ext (rPlain_say HPl s1 _))
                | (go_at_call 28; exact Calls.ext_eq (rIsValue_say HVl ht _))
                | (go_at_call 29; exact Calls.ext_eq (rTrim_say HTr ht _)))))
              refine wpQuiet_nil ?_
              intro _ hw'
              obtain ⟨⟨w3, hs3⟩, hw''⟩ := hw'
              subst hw''
              clear d0 d1 d2
              have HE := Lib.hid (sitex_none (w := w) (table_not (List.mem_of_getElem? HX.out) HB.out) (HS4.out.trans hs3 (fun _ _ h => h)))
              clear hs3
              go_wp2_with fail
              go_ret2
              exact HE.out
            | true =>
              by_cases q4 : d.size ≤ 2048
              rotate_left
              · have e4 : (2048 : Int) < (d.size : Int) := by omega
                have HB := Lib.hid (entB_not (x := ⟨p, t, d⟩) (fun h => q4 h.2.2.2.2.2))
                refine wp_region_ext_lit (by kernel_rfl) (by kernel_rfl) ?_
                repeat (go_big_quiet_step ((first
                  | (go_at_call 27; exact Calls.ext (rPlain_say HPl s1 _))
                  | (go_at_call 28; exact Calls.ext_eq (rIsValue_say HVl ht _))
                  | (go_at_call 29; exact Calls.ext_eq (rTrim_say HTr ht _)))))
                refine wpQuiet_nil ?_
                intro _ hw'
                obtain ⟨⟨w3, hs3⟩, hw''⟩ := hw'
                subst hw''
                clear d0 d1 d2
                have HE := Lib.hid (sitex_none (w := w) (table_not (List.mem_of_getElem? HX.out) HB.out) (HS4.out.trans hs3 (fun _ _ h => h)))
                clear hs3
                go_wp2_with fail
                go_ret2
                exact HE.out
              have e4 : ¬ (2048 : Int) < (d.size : Int) := by omega
              have e4b : (d.size : Int) ≤ 2048 := by omega
              have HB := Lib.hid (allE_true (x := ⟨p, t, d⟩) hpb q2 q3 hvl (hq.2 heq) q4)
              refine wp_region_ext_lit (by kernel_rfl) (by kernel_rfl) ?_
              repeat (go_big_quiet_step ((first
                | (go_at_call 27; exact Calls.ext (rPlain_say HPl s1 _))
                | (go_at_call 28; exact Calls.ext_eq (rIsValue_say HVl ht _))
                | (go_at_call 29; exact Calls.ext_eq (rTrim_say HTr ht _)))))
              refine wpQuiet_nil ?_
              intro _ hw'
              obtain ⟨⟨w3, hs3⟩, hw''⟩ := hw'
              subst hw''
              clear d0 d1 d2
              have HS5 := Lib.hid (HS4.out.trans hs3 (fun _ _ h => h))
              clear hs3
              go_wp2_with fail
              exact ⟨⟨k + 1, by omega, by go_num, takeE_all HS.out.2 HX.out HB.out, HS5.out⟩, by simp [intOf]; omega⟩
      · obtain rfl : k = T.length := by omega
        have ht := HS.out.2
        rw [List.take_length] at ht
        have HT := Lib.hid (table_is (by omega) ht)
        clear ht
        go_wp2_with (refine wpList_push_opt rfl _ _ 22 56 rfl Tryz.underlying22 _ 3 48 infoEnt rfl (by decide) (by decide) w.heap.size 0 _ [] rfl (own_empty wr _ _ HS.out.1.size) A T.length c (entCells T) rfl HA.out.2.1 (entCells_len T) (HA.out.1.no (HS.out.1.alloc _)) (entCells_one T) (by omega) (Nat.le_trans HS.out.1.size (by simp)) ?_; intro vT w2 hvT hs2 hvb; refine RowKit.Hid.out ?_)
        refine Lib.hid ?_
        rw [Nat.zero_add] at hvT
        rw [List.nil_append] at hvT
        have hs2' : Sm No w w2 := (HS.out.1.alloc (.cells #[] 56)).trans hs2 (fun b hb e => by
          have e' : some wr.heap.size = some b := e
          injection e' with e'
          have := HS.out.1.size
          omega)
        obtain ⟨AT, cT, rfl, _⟩ := own_rowC hvT
        obtain ⟨s, hse⟩ : ∃ s, w2.heap.size = s := ⟨_, rfl⟩
        obtain ⟨w3, hw3⟩ : ∃ w3, w2.alloc (.cells #[.slice none 0 0, .slice AT T.length cT] 75) = w3 := ⟨_, rfl⟩
        have hs3 : Sm No w2 w3 := by rw [← hw3]; exact (Sm.refl _ _).alloc _
        have hB3 : Bk w3 s 75 #[.slice none 0 0, .slice AT T.length cT] := by rw [← hw3, ← hse]; exact Bk.new w2 _ _
        have hvTw : ∀ b, (Value.slice AT T.length cT).ownBlock = some b → w.heap.size ≤ b ∧ b < w2.heap.size := fun b hb => World.ownsRow.lt hvT b hb
        have hvT3 : OwnE w3 0 (.slice AT T.length cT) T := own_row_base (own_row_sm hvT hs3 (fun _ _ h => h)) (fun b _ => Nat.zero_le b)
        have hws : w.heap.size ≤ s := by rw [← hse]; exact hs2'.size
        have hR3 : OwnX w w3 (fun b => (Value.slice AT T.length cT).ownBlock = some b) 75 [.slice AT T.length cT] s [] :=
          ⟨fun b => b = s, ⟨.slice none 0 0, [], hB3, World.ownsRow_nil _ _ _ 3, rfl, fun x hx => (List.not_mem_nil hx).elim, rfl, fun g hg => by simp [Value.ownBlock] at hg, fun x hx => (List.not_mem_nil hx).elim, fun b hb => by rw [hb]; exact hB3.lt, by decide, by decide⟩, hs2'.trans hs3 (fun _ _ h => h), fun b hb => by rw [hb]; exact hws, fun b hb => ⟨own_lt hvT3 hb, fun e => by have := (hvTw b hb).2; omega⟩⟩
        have H3 := Lib.hid (And.intro hR3 (And.intro hvT3 (And.intro hws hvTw)))
        have HW3 := Lib.hid (And.intro hw3 hse)
        clear hs2 hs2' hvT hse hw3 hs3 hB3 hvT3 hws hvTw hR3 hvb
        go_wp2_with fail
        rw [HW3.out.1, HW3.out.2]
        have H4 := Lib.hid (And.intro H3.out.1 H3.out.2.1)
        have hz3 : w3.heap.size = s + 1 := by rw [← HW3.out.1, ← HW3.out.2]; simp
        have HZ3 := Lib.hid hz3
        clear hz3
        refine (addX_own (w := w) (A := some ⟨s + 1, 0, none⟩) (c := 1) (s := ⟨#[47, 101, 99, 104, 111]⟩) (id := 1) (ms := [[80, 79, 83, 84]]) (H4.out.1.no ((Sm.refl No w3).alloc (.cells #[.string ⟨#[80, 79, 83, 84]⟩] 9))) Fine.nil (by decide) (rowC_bk (Bk.newAt w3 9 #[.string ⟨#[80, 79, 83, 84]⟩] HZ3.out.symm)) (fun e => by cases e) (by decide) (by decide)).mono ?_
        rintro e w5 ⟨rfl, hR, hs⟩
        rw [addC_1]
        rw [addS_1] at hR
        have hv := own_row_sm (World.ownsRow.alloc H4.out.2 (.cells #[.string ⟨#[80, 79, 83, 84]⟩] 9)) hs (fun b hb h => h hb)
        have H5 := Lib.hid (And.intro hR hv)
        clear hR hs hv
        go_wp2_with fail
        refine (addX_own (w := w) (A := some ⟨w5.heap.size, 0, none⟩) (c := 1) (s := ⟨#[47, 107, 101, 121]⟩) (id := 2) (ms := [[71, 69, 84]]) (H5.out.1.no ((Sm.refl No w5).alloc (.cells #[.string ⟨#[71, 69, 84]⟩] 9))) ⟨by decide, by decide⟩ (by decide) (rowC_bk (Bk.new w5 9 #[.string ⟨#[71, 69, 84]⟩])) (fun e => by cases e) (by decide) (by decide)).mono ?_
        rintro e w6 ⟨rfl, hR, hs⟩
        rw [addC_2]
        rw [addS_2] at hR
        have hv := own_row_sm (World.ownsRow.alloc H5.out.2 (.cells #[.string ⟨#[71, 69, 84]⟩] 9)) hs (fun b hb h => h hb)
        have H6 := Lib.hid (And.intro hR hv)
        clear hR hs hv
        go_wp2_with fail
        refine (addX_own (w := w) (A := some ⟨w6.heap.size, 0, none⟩) (c := 1) (s := ⟨#[47, 115, 116, 97, 116, 117, 115]⟩) (id := 3) (ms := [[71, 69, 84]]) (H6.out.1.no ((Sm.refl No w6).alloc (.cells #[.string ⟨#[71, 69, 84]⟩] 9))) ⟨by decide, by decide⟩ (by decide) (rowC_bk (Bk.new w6 9 #[.string ⟨#[71, 69, 84]⟩])) (fun e => by cases e) (by decide) (by decide)).mono ?_
        rintro e w7 ⟨rfl, hR, hs⟩
        rw [addC_3]
        rw [addS_3] at hR
        have hv := own_row_sm (World.ownsRow.alloc H6.out.2 (.cells #[.string ⟨#[71, 69, 84]⟩] 9)) hs (fun b hb h => h hb)
        have H7 := Lib.hid (And.intro hR hv)
        clear hR hs hv
        go_wp2_with fail
        go_loopw [7] (fun i wr => SxR2 w T s AT cT i wr) (fun i _ => T.length - (intOf i).toNat)
        case atStart => exact ⟨0, Nat.zero_le _, rfl, by rw [List.take_zero]; exact H7.out.1, H7.out.2, apR_zero T⟩
        case round =>
          obtain ⟨k, hk, rfl, hR, hv, hap⟩ := hrel
          have H8 := Lib.hid (And.intro hR (And.intro hv hap))
          clear hR hv hap
          by_cases hlt : k < T.length
          · obtain ⟨x, hx⟩ : ∃ x, T[k]? = some x := ⟨_, List.getElem?_eq_getElem hlt⟩
            obtain ⟨t1, _, _⟩ := entCells_at hx
            obtain ⟨bb, off, hAe, hbw, r0⟩ := HA.out.1.at t1
            subst hAe
            have r0 := H8.out.1.sm.cell hbw r0
            have hbb := Nat.lt_of_lt_of_le hbw H8.out.1.sm.size
            have k1 : (0 : Int) ≤ (k : Int) := by omega
            have k2 : (k : Int) < (T.length : Int) := by omega
            obtain ⟨s1, _, _⟩ := HA.out.2.2 x (List.mem_of_getElem? hx)
            have hk40 : k < 40 := by omega
            have hadd := ent_add (T := T.take k) (table_ent HT.out (List.mem_of_getElem? hx)) (by rw [List.length_take]; omega) k
            have hap1 := apR_step hx
            have hlaid := ent_laid (i := k) hx
            have hpats := routes_pats (T.take k)
            have hnot := fun h => not_apart hx h
            have HX := Lib.hid (And.intro hx (And.intro hadd (And.intro hap1 (And.intro hlaid (And.intro hpats hnot)))))
            clear hx t1 hadd hap1 hlaid hpats hnot
            obtain ⟨L, hL⟩ : ∃ L, routesL (T.take k) = L := ⟨_, rfl⟩
            have HL := Lib.hid hL
            have hcl := H8.out.1.cell
            rw [hL] at hcl
            obtain ⟨hsl, AL, cL, c0, hget⟩ := hcl
            have hLl : L.length ≤ 43 := by rw [← hL, routes_len, List.length_take]; omega
            have HG := Lib.hid hget
            clear hget hL
            obtain ⟨wb, hwb⟩ : ∃ wb : World, wb = wr := ⟨_, rfl⟩
            subst hwb
            go_wp2_with fail
            go_loopw [8] (fun i wr' => SxR3 wb L (txt x.path) i wr') (fun i _ => L.length - (intOf i).toNat)
            case atStart => exact ⟨0, Nat.zero_le _, rfl, by simp, Sm.refl _ _⟩
            case round =>
              obtain ⟨j, hj, rfl, hne, hs⟩ := hrel
              have c0 := hs.cell hsl c0
              have r0 := hs.cell hbb r0
              have hsl := Nat.lt_of_lt_of_le hsl hs.size
              have hbb := Nat.lt_of_lt_of_le hbb hs.size
              by_cases hjl : j < L.length
              · obtain ⟨y, hy⟩ : ∃ y, L[j]? = some y := ⟨_, List.getElem?_eq_getElem hjl⟩
                obtain ⟨g, hAL, hg, p0⟩ := HG.out j y hy
                subst hAL
                have p0 := hs.cell hg p0
                obtain ⟨yb, hyb, hyt⟩ : ∃ yb : ByteArray, strB y.pat = .string yb ∧ txt yb = y.pat := ⟨⟨y.pat.toArray⟩, rfl, txt_mk _⟩
                rw [hyb] at p0
                have HS3 := Lib.hid (And.intro hs (And.intro hne (And.intro hy hyt)))
                clear hs hne hy hyb
                have j1 : (0 : Int) ≤ (j : Int) := by omega
                have j2 : (j : Int) < (L.length : Int) := by omega
                by_cases he : y.pat = txt x.path
                · have e2 : yb.toList = x.path.toList := (bytes_eq_iff yb _).2 ((hyt.trans he).trans ((bytes_eq_iff x.path _).1 rfl).symm.symm)
                  have e1 : (yb.toList == x.path.toList) = true := by rw [e2]; exact beq_self_eq_true _
                  have HE := Lib.hid (fun n => sitex_twice (w := w) HT.out (HX.out.2.2.2.2.2 (by
                    rw [← HX.out.2.2.2.2.1, HL.out]
                    exact List.mem_map.2 ⟨y, List.mem_of_getElem? HS3.out.2.2.1, he⟩)) ((H8.out.1.sm.trans HS3.out.1 (fun _ _ h => h)).drewN n))
                  clear hyt he
                  go_wp2_with fail
                  go_quiet (fail)
                  go_wp2_with fail
                  go_ret2
                  exact HE.out _
                · have e2 : ¬ yb.toList = x.path.toList := fun e => he (hyt.symm.trans ((bytes_eq_iff yb (txt x.path)).1 (e.trans ((bytes_eq_iff x.path (txt x.path)).2 rfl))))
                  have e1 : (yb.toList == x.path.toList) = false := by rw [beq_eq_false_iff_ne]; exact e2
                  have HN := Lib.hid (take_allL (p := fun y => y.pat ≠ txt x.path) HS3.out.2.1 HS3.out.2.2.1 he)
                  clear hyt he
                  go_wp2_with fail
                  go_quiet (fail)
                  go_wp2_with fail
                  exact ⟨⟨j + 1, by omega, by go_num, HN.out, HS3.out.1.drewN _⟩, by simp [intOf]; omega⟩
              · obtain rfl : j = L.length := by omega
                rw [List.take_length] at hne
                have hm : txt x.path ∉ pEcho :: pKey :: pStat :: pathsL (T.take k) := by
                  rw [← HX.out.2.2.2.2.1, HL.out]
                  intro hm
                  obtain ⟨y, hy, e⟩ := List.mem_map.1 hm
                  exact hne y hy e
                have hc : addC (routesL (T.take k)) (entLt k x) = 0 := HX.out.2.1.trans (if_neg (fun h => hm (List.mem_cons_of_mem _ h)))
                have HC := Lib.hid hc
                have HS' := Lib.hid (HX.out.2.2.2.1 hc)
                have HAp := Lib.hid (HX.out.2.2.1.2 ⟨H8.out.2.2, hm⟩)
                have hR0 := H8.out.1.no hs
                have hv0 := own_row_sm H8.out.2.1 hs (fun _ _ h => h)
                have i3 : IntKind.i64.wrap (10 + (k : Int)) = 10 + (k : Int) := IntWalk.i64_in _ (by omega)
                have hs2 : Sm No wr ((wr.alloc (.cells #[.string ⟨#[71, 69, 84]⟩] 9)).drew) := ((Sm.refl No wr).alloc _).drew
                have hbM : Bk ((wr.alloc (.cells #[.string ⟨#[71, 69, 84]⟩] 9)).drew) wr.heap.size 9 #[.string ⟨#[71, 69, 84]⟩] := (Bk.new wr _ _).drew
                have hR2 : OwnX w ((wr.alloc (.cells #[.string ⟨#[71, 69, 84]⟩] 9)).drew) (fun b => (Value.slice AT T.length cT).ownBlock = some b ∨ b = bb) 75 [.slice AT T.length cT] s (routesL (T.take k)) := (hR0.no hs2).old (fun b hb => by
                  rcases hb with hb | rfl
                  · exact Or.inl hb
                  · exact Or.inr hbw)
                have hb2 := Nat.lt_of_lt_of_le hbb hs2.size
                have HN := Lib.hid (And.intro hR2 (And.intro (own_row_sm hv0 hs2 (fun _ _ h => h)) (And.intro hbM (And.intro hb2 (hs2.cell hbb r0)))))
                have hTk : (T.take k).length ≤ 40 := by rw [List.length_take]; omega
                clear hne hm hc hR0 hv0 hs hs2 hbM hR2 hb2
                go_wp2_with fail
                go_region_held3 (fun w' => w'.cell? ⟨bb, off + k * 3, none⟩ = some (.string x.path)) (first | exact r0 | exact r9 | go_keep)
                  ((go_at_call 30; (with_reducible refine (addEX_say HC HS' HN.out.1 hTk s1 HN.out.2.2.1).mono ?_); rintro e w9 ⟨rfl, hR9, hs9⟩; have r9 := hs9.cellS HN.out.2.2.2.1 (fun h => h (Or.inr rfl)) HN.out.2.2.2.2))
                all_goals
                  have HF := Lib.hid (And.intro (hR9.old (K2 := fun b => (Value.slice AT T.length cT).ownBlock = some b) (fun b hb => Or.inl (Or.inl hb))) (own_row_sm HN.out.2.1 hs9 (fun b hb h => h (Or.inl hb))))
                  clear hR9 hs9
                  go_wp2_with fail
                  exact ⟨⟨k + 1, by omega, by go_num, HF.out.1, HF.out.2, HAp.out⟩, by simp [intOf]; omega⟩
          · obtain rfl : k = T.length := by omega
            have hap : siteC T = 0 := by unfold siteC; rw [if_pos HT.out, if_pos (is_apartR H8.out.2.2)]
            have hR := H8.out.1
            rw [List.take_length] at hR
            have H9 := Lib.hid (And.intro hR hap)
            clear hR hap
            go_wp2_with fail
            go_ret2
            obtain ⟨Q, g1, g2, g3, g4⟩ := H9.out.1
            refine Or.inl ⟨H9.out.2, s, fun b => Q b ∨ (Value.slice AT T.length cT).ownBlock = some b, rfl, ⟨Q, _, g1, H8.out.2.1, fun b hb => hb, fun b hb => ?_⟩, g2, fun b hb => ?_⟩
            · rcases hb with hb | hb
              · exact g1.ltO b hb
              · exact own_lt H8.out.2.1 hb
            · rcases hb with hb | hb
              · exact g3 b hb
              · exact (H3.out.2.2.2 b hb).1
end Go.Proofs.YtiglfbimijnpcaaGreatDoor

