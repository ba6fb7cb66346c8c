/- route: New, and which route serves a method. -/
import Derived.Test.YtnopbhboamembaaDoorRoutD
import Derived.Carry
import Derived.Laws.Cover3
import Derived.Lib.SliceRun
namespace Go.Proofs.YtnopbhboamembaaDoor
open Go.RowKit Go.Proofs

/-- v is a slice of just these routes. -/
def RtsAt (w : World) (v : Value) (L : List Lt) : Prop :=
  ∃ l : List (Lt × Value), l.map Prod.fst = L ∧ w.ownsRow 0 86 2 v l.length (rcells l) ∧ (∀ x ∈ l, OwnT w 0 x.2 x.1.ms) ∧ ∀ x ∈ L, x.ms.length ≤ 1000000
theorem RtsAt.no {w w' : World} {v : Value} {L : List Lt} (h : RtsAt w v L) (hs : Sm No w w') : RtsAt w' v L := by
  obtain ⟨l, h1, h2, h3, h4⟩ := h
  exact ⟨l, h1, own_row_sm h2 hs (fun _ _ h => h), fun x hx => (h3 x hx).no hs, h4⟩
theorem RtsAt.form {w : World} {v : Value} {L : List Lt} (h : RtsAt w v L) : ∃ A c, v = .slice A L.length c ∧ (L ≠ [] → ∃ g, A = some ⟨g, 0, none⟩) := by
  obtain ⟨l, rfl, h2, _⟩ := h
  rcases own_row_form h2 with ⟨rfl, h0, _⟩ | ⟨g, cap, rfl, _⟩
  · have : l = [] := List.eq_nil_of_length_eq_zero h0
    subst this
    exact ⟨none, 0, rfl, fun h => absurd rfl h⟩
  · exact ⟨some ⟨g, 0, none⟩, cap, by simp, fun _ => ⟨g, rfl⟩⟩
/-- The k-th route of a slice. -/
theorem RtsAt.get {w : World} {A : Option Addr} {n c : Nat} {L : List Lt} (h : RtsAt w (.slice A n c) L) {k : Nat} (hk : k < L.length) :
    ∃ g A2 c2, A = some ⟨g, 0, none⟩ ∧ g < w.heap.size ∧ w.cell? ⟨g, k * 2, none⟩ = some (.int .i64 L[k].id) ∧ w.cell? ⟨g, k * 2 + 1, none⟩ = some (.slice A2 L[k].ms.length c2) ∧ RowC w A2 (L[k].ms.map strV) ∧ L[k].ms.length ≤ 1000000 ∧ (A2 = none → c2 = 0) := by
  obtain ⟨l, rfl, h2, h3, h4⟩ := h
  have hk' : k < l.length := by simpa using hk
  rcases own_row_form h2 with ⟨_, h0, _⟩ | ⟨g, cap, hv, _, _, hb, _, hx, _⟩
  · omega
  · injection hv with hv
    subst hv
    obtain ⟨e1, e2⟩ := rcells_at hk'
    have hO := h3 l[k] (List.getElem_mem hk')
    obtain ⟨A2, c2, hv2, hR, _, hn⟩ := own_rowC hO
    have eL : (l.map Prod.fst)[k] = l[k].1 := by simp
    refine ⟨g, A2, c2, rfl, hb, ?_, ?_, ?_, ?_, hn⟩
    · rw [eL]; exact hx _ _ e1
    · rw [eL, ← hv2]; exact hx _ _ e2
    · rw [eL]; exact hR
    · exact h4 _ (List.getElem_mem hk)

def ofV : Option Int → Value
  | some i => .tuple #[.int .i64 i, .bool true]
  | none => .tuple #[.int .i64 0, .bool false]
def OfRel (w : World) (L : List Lt) (m : Txt) (i : Value) (wr : World) : Prop :=
  ∃ k : Nat, k ≤ L.length ∧ i = .int .i64 k ∧ Sm No w wr ∧ ofL L m = ofL (L.drop k) m
theorem ofL_at {L : List Lt} {k : Nat} (m : Txt) (h : k < L.length) : ofL (L.drop k) m = if (L[k].ms.isEmpty || L[k].ms.contains m) = true then some L[k].id else ofL (L.drop (k + 1)) m := by
  rw [List.drop_eq_getElem_cons h, ofL]
theorem ofL_end {L : List Lt} {k : Nat} (m : Txt) (h : ¬ k < L.length) : ofL (L.drop k) m = none := by
  rw [List.drop_eq_nil_of_le (by omega)]; rfl

set_option maxRecDepth 100000 in
set_option maxHeartbeats 4000000 in
theorem of_any (w : World) (v : Value) (L : List Lt) (m : ByteArray) (h : RtsAt w v L) (hl : L.length ≤ 1000000) :
    Calls Tryd.prog 53 #[v, .string m] w fun e w' => e = .returned (ofV (ofL L (txt m))) ∧ Sm No w w' := by
  obtain ⟨A, c, rfl, _⟩ := h.form
  obtain ⟨R, hR⟩ : ∃ R, ofL L (txt m) = R := ⟨_, rfl⟩
  rw [hR]
  have HA := Lib.hid (And.intro h hR)
  clear h hR
  go_enter Tryd.func53, Tryd.ntmps53
  go_wp2_with fail
  go_loopw [10] (fun i wr => OfRel w L (txt m) i wr) (fun i _ => L.length - (intOf i).toNat)
  case atStart => exact ⟨0, Nat.zero_le _, rfl, Sm.refl _ _, rfl⟩
  case round =>
    obtain ⟨k, hk, rfl, hsm, hof⟩ := hrel
    have HS := Lib.hid (And.intro hsm hof)
    clear hsm hof
    by_cases hlt : k < L.length
    · obtain ⟨g, A2, c2, hA, hg, r0, r1, hR, hl2, _⟩ := (HA.out.1.no HS.out.1).get hlt
      subst hA
      have hat := ofL_at (txt m) hlt
      obtain ⟨id, hid⟩ : ∃ id, L[k].id = id := ⟨_, rfl⟩
      obtain ⟨ms, hms⟩ : ∃ ms, L[k].ms = ms := ⟨_, rfl⟩
      rw [hid] at r0 hat
      rw [hms] at r1 hR hl2 hat
      obtain ⟨b, hb⟩ : ∃ b, ms.contains (txt m) = b := ⟨_, rfl⟩
      rw [hb] at hat
      have HB := Lib.hid hb
      have hs2 := (Sm.refl No wr).alloc (.cells #[.int .i64 id, .slice A2 ms.length c2] 86)
      have HM := Lib.hid (And.intro hat (And.intro (hR.no hs2) (HS.out.1.trans hs2 (fun _ _ h => h))))
      have k1 : (0 : Int) ≤ (k : Int) := by omega
      have k2 : (k : Int) < (L.length : Int) := by omega
      clear hid hms hat hR hb hs2
      by_cases hm0 : ms = []
      · subst hm0
        have e0 : ((([] : List Txt).length : Int) == 0) = true := rfl
        have hRR : R = some id := by rw [← HA.out.2, HS.out.2, HM.out.1]; rfl
        subst hRR
        go_wp2_with fail
        go_ret2
        exact ⟨rfl, HM.out.2.2⟩
      · have e0 : ((ms.length : Int) == 0) = false := by simp; exact hm0
        have hE : ms.isEmpty = false := by cases ms with
          | nil => exact absurd rfl hm0
          | cons a r => rfl
        have HE := Lib.hid hE
        clear hE hm0
        go_wp2_with fail
        refine (contains_say HB _ A2 c2 HM.out.2.1 hl2).mono ?_
        rintro e w2 ⟨rfl, rfl⟩
        cases b
        · have hof : ofL L (txt m) = ofL (L.drop (k + 1)) (txt m) := by rw [HS.out.2, HM.out.1, HE.out]; rfl
          have HO := Lib.hid hof
          clear hof
          go_wp2_with fail
          exact ⟨⟨k + 1, by omega, by go_num, HM.out.2.2, HO.out⟩, by simp [intOf]; omega⟩
        · have hRR : R = some id := by rw [← HA.out.2, HS.out.2, HM.out.1, HE.out]; rfl
          subst hRR
          go_wp2_with fail
          go_ret2
          exact ⟨rfl, HM.out.2.2⟩
    · have hRR : R = none := by rw [← HA.out.2, HS.out.2, ofL_end _ hlt]
      subst hRR
      go_wp2_with fail
      go_ret2
      exact ⟨rfl, HS.out.1⟩

theorem new_world (w : World) : ∃ O : Nat → Prop, IsRouter (((w.alloc (.map #[] 0)).alloc (.map #[] 0)).alloc (.cells #[.map (some w.heap.size), .map (some (w.heap.size + 1)), .int .i64 0] 80)) O (w.heap.size + 2) [] ∧
    Sm No w (((w.alloc (.map #[] 0)).alloc (.map #[] 0)).alloc (.cells #[.map (some w.heap.size), .map (some (w.heap.size + 1)), .int .i64 0] 80)) ∧ ∀ b, O b → w.heap.size ≤ b := by
  have h1 := MapT.made w
  have hs1 := (Sm.refl No w).alloc (.map #[] 0)
  have h2 := MapT.made (w.alloc (.map #[] 0))
  have hs2 := (Sm.refl No (w.alloc (.map #[] 0))).alloc (.map #[] 0)
  have hb := Bk.newAt ((w.alloc (.map #[] 0)).alloc (.map #[] 0)) 80 #[.map (some w.heap.size), .map (some (w.heap.size + 1)), .int .i64 0] (g := w.heap.size + 2) (by simp)
  have hs3 := (Sm.refl No ((w.alloc (.map #[] 0)).alloc (.map #[] 0))).alloc (.cells #[.map (some w.heap.size), .map (some (w.heap.size + 1)), .int .i64 0] 80)
  have e1 : (w.alloc (.map #[] 0)).heap.size = w.heap.size + 1 := by simp
  rw [e1] at h2
  refine ⟨fun b => w.heap.size ≤ b ∧ b ≤ w.heap.size + 2, ⟨w.heap.size, w.heap.size + 1, fun _ _ => nilV, fun _ _ => [], hb, (h1.sm hs2 (fun h => h)).sm hs3 (fun h => h), h2.sm hs3 (fun h => h), ?_, fun _ _ => rfl, ?_, ?_, ?_, ?_, ?_⟩, (hs1.trans hs2 (fun _ _ h => h)).trans hs3 (fun _ _ h => h), fun b hb => hb.1⟩
  · exact ⟨fun _ _ => World.ownsRow_nil _ _ _ _, fun _ _ _ => rfl, fun _ _ x hx => (by cases hx), fun _ _ _ _ _ => Or.inl rfl, fun _ _ g hg => (by cases hg), fun _ _ x hx => (by cases hx)⟩
  · exact ⟨by omega, by omega⟩
  · exact ⟨by omega, by omega⟩
  · exact ⟨by omega, by omega⟩
  · omega
  · intro b hb; simp; omega

theorem new_any (w : World) : Calls Tryd.prog 26 #[] w fun e w' => ∃ r O, e = .returned (.pointer (some ⟨r, 0, none⟩)) ∧ IsRouter w' O r [] ∧ Sm No w w' ∧ ∀ b, O b → w.heap.size ≤ b := by
  have hmm := @run_makeMap Tryd.prog
  obtain ⟨O, hO⟩ := new_world w
  have HO := Lib.hid hO
  clear hO
  go_enter Tryd.func26, Tryd.ntmps26
  go_wp2_with fail
  go_ret
  exact ⟨_, O, rfl, HO.out⟩

theorem neqS (w : World) (g : Addr) (l c : Nat) : (binOp .neq 84 (.slice (some g) l c) (.slice none 0 0)).run Tryd.prog w = .ok (.bool true) w := run_neq_slice_nil w _ _ (some g) l c Tryd.underlying84
theorem neqN (w : World) : (binOp .neq 84 (.slice none 0 0) (.slice none 0 0)).run Tryd.prog w = .ok (.bool false) w := run_neq_slice_nil w _ _ none 0 0 Tryd.underlying84
theorem eqlS (w : World) (g : Addr) (l c : Nat) : (binOp .eql 84 (.slice (some g) l c) (.slice none 0 0)).run Tryd.prog w = .ok (.bool false) w := Lib.run_eql_slice_nil w _ _ (some g) l c 0 0 Tryd.underlying84
theorem eqlN (w : World) : (binOp .eql 84 (.slice none 0 0) (.slice none 0 0)).run Tryd.prog w = .ok (.bool true) w := Lib.run_eql_slice_nil w _ _ none 0 0 0 0 Tryd.underlying84
/-- What find hands back. -/
def FindPost (w : World) (L : List Lt) (path : Txt) (e : Ending) (w' : World) : Prop :=
  ∃ v rest, e = .returned (.tuple #[v, strB rest]) ∧ Sm No w w' ∧ ((findP L path = none ∧ v = nilV ∧ rest = []) ∨ ∃ k, findP L path = some (k, rest) ∧ sel L k ≠ [] ∧ RtsAt w v (sel L k))

/-- The slice of a key: nil, or the routes of it. -/
theorem IsRouter.at {w : World} {O : Nat → Prop} {r : Nat} {L : List Lt} (h : IsRouter w O r L) (hms : ∀ x ∈ L, x.ms.length ≤ 1000000) : ∃ (ba bu : Nat) (f : Bool → Txt → Value), Bk w r 80 #[.map (some ba), .map (some bu), .int .i64 L.length] ∧ MapT w ba L.length (f false) ∧ MapT w bu L.length (f true) ∧
    ∀ d q, RtsAt w (f d q) (sel L (d, q)) ∧ (sel L (d, q) = [] → f d q = nilV) := by
  obtain ⟨ba, bu, f, l, h1, h2, h3, h4, h5, _⟩ := h
  refine ⟨ba, bu, f, h1, h2, h3, fun d q => ⟨⟨l d q, h5 d q, h4.own d q, h4.ms d q, fun x hx => hms x (List.mem_filter.1 hx).1⟩, fun e => h4.nil d q ?_⟩⟩
  rw [← h5] at e
  exact List.map_eq_nil_iff.1 e
def FindRel (w : World) (L : List Lt) (path : Txt) (i : Value) (wr : World) : Prop :=
  ∃ n : Nat, n ≤ path.length ∧ i = .int .i64 ((n : Int) - 1) ∧ Sm No w wr ∧ downP L path path.length = downP L path n

theorem at_txt (s : ByteArray) (k : Nat) (h : k < s.size) : (txt s)[k]? = some s[k] := by
  unfold txt
  rw [List.getElem?_eq_getElem (by simpa using h)]
  rfl

set_option maxRecDepth 100000 in
set_option maxHeartbeats 8000000 in
theorem find_any (w : World) (O : Nat → Prop) (r : Nat) (L : List Lt) (path : ByteArray) (h : IsRouter w O r L) (hms : ∀ x ∈ L, x.ms.length ≤ 1000000) (hp : path.size ≤ 1000000) :
    Calls Tryd.prog 52 #[.pointer (some ⟨r, 0, none⟩), .string path] w (FindPost w L (txt path)) := by
  obtain ⟨ba, bu, f, hb, ha, hu, hf⟩ := h.at hms
  have nS := neqS
  have nN := neqN
  have c0 := hb.at 0 (v := .map (some ba)) rfl
  have hl0 := ha.look path hp
  have HA := Lib.hid (And.intro hb (And.intro ha (And.intro hu hf)))
  obtain ⟨hf0, hn0⟩ := hf false (txt path)
  clear hb ha hu hf h
  by_cases he : sel L (false, txt path) = []
  · rw [hn0 he] at hl0
    unfold nilV at hl0
    have hP : findP L (txt path) = (downP L (txt path) (txt path).length).map (fun i => ((true, (txt path).take (i + 1)), (txt path).drop (i + 1))) := by
      unfold findP; rw [he]; rfl
    have HP := Lib.hid (And.intro hP he)
    clear hP he hf0 hn0
    go_enter Tryd.func52, Tryd.ntmps52
    go_wp2_with fail
    go_loopw [7] (fun i wr => FindRel w L (txt path) i wr) (fun i _ => (intOf i + 1).toNat)
    case atStart => exact ⟨path.size, by rw [txt_len]; exact Nat.le_refl _, rfl, Sm.refl _ _, by rw [txt_len]⟩
    case round =>
      obtain ⟨n, hn, rfl, hsm, hd⟩ := hrel
      rw [txt_len] at hn
      have HS := Lib.hid (And.intro hsm hd)
      have c1 : wr.cell? ⟨r, 1, none⟩ = some (.map (some bu)) := (HA.out.1.sm hsm (fun h => h)).at 1 rfl
      have hu := HA.out.2.2.1.sm hsm (fun h => h)
      clear hsm hd
      cases n with
      | zero =>
        have hnone : findP L (txt path) = none := by rw [HP.out.1, HS.out.2]; rfl
        have HN := Lib.hid hnone
        have k0 : ((0 : Nat) : Int) - 1 = -1 := by omega
        clear hnone hu
        go_wp2_with fail
        go_ret2
        exact ⟨nilV, [], rfl, HS.out.1, Or.inl ⟨HN.out, rfl, rfl⟩⟩
      | succ m =>
        have hlt : m < path.size := by omega
        have hd := at_txt path m hlt
        obtain ⟨ch, hc⟩ : ∃ ch, path[m] = ch := ⟨_, rfl⟩
        rw [hc] at hd
        have k0 : ((m + 1 : Nat) : Int) - 1 = (m : Int) := by omega
        have kA : (0 : Int) ≤ (m : Int) := by omega
        have kB : (m : Int) < (path.size : Int) := by omega
        rw [k0]
        by_cases hc1 : ch = 47
        · have ht : ((ch.toNat : Int) == 47) = true := by rw [hc1]; rfl
          have hq : txt (path.extract 0 (m + 1)) = (txt path).take (m + 1) := by unfold txt; rw [Lib.extract_data]; simp
          have hl1 : ∀ nq, (Instr.lookup 78 (.map (some bu)) (.string (path.extract 0 (m + 1))) false).run Tryd.prog (wr.drewN nq) = .ok (f true ((txt path).take (m + 1))) (wr.drewN nq) := fun nq => by
            rw [← hq]
            exact (show MapT (wr.drewN nq) bu L.length (f true) from hu.sm ((Sm.refl No wr).drewN nq) (fun h => h)).look _ (by simp; omega)
          obtain ⟨hf1, hn1⟩ := HA.out.2.2.2 true ((txt path).take (m + 1))
          by_cases hw : sel L (true, (txt path).take (m + 1)) = []
          · rw [hn1 hw] at hl1
            unfold nilV at hl1
            go_wp2_with fail
            have hno : downP L (txt path) (m + 1) = downP L (txt path) m := by rw [downP, if_neg]; intro hc; unfold hasW at hc; rw [hw] at hc; exact absurd hc.2 (by simp)
            have HN := Lib.hid hno
            clear hno
            go_quiet (fail)
            go_wp2_with fail
            exact ⟨⟨m, by rw [txt_len]; omega, rfl, HS.out.1.drewN _, by rw [HS.out.2, HN.out]⟩, by simp [intOf]⟩
          · obtain ⟨A, c, hv, hA⟩ := hf1.form
            obtain ⟨g, rfl⟩ := hA hw
            rw [hv] at hl1
            go_wp2_with fail
            go_quiet (fail)
            have hyes : downP L (txt path) (m + 1) = some m := by
              rw [downP, if_pos]
              refine ⟨by rw [hd, hc1], ?_⟩
              unfold hasW
              simpa using hw
            have hr : (⟨((txt path).drop (m + 1)).toArray⟩ : ByteArray) = path.extract (m + 1) path.size := by
              rw [← mk_txt (path.extract (m + 1) path.size)]
              congr 2
              unfold txt
              rw [Lib.extract_data, List.take_of_length_le (by simp)]
            have HN := Lib.hid (And.intro hyes (And.intro hr (And.intro hf1 (And.intro hv hw))))
            clear hyes hr hf1 hn1 hv hw
            go_wp2_with fail
            go_quiet (fail)
            go_wp2_with fail
            go_ret2
            have hfin : RtsAt w (.slice (some ⟨g, 0, none⟩) (sel L (true, (txt path).take (m + 1))).length c) (sel L (true, (txt path).take (m + 1))) := by rw [← HN.out.2.2.2.1]; exact HN.out.2.2.1
            refine ⟨.slice (some ⟨g, 0, none⟩) (sel L (true, (txt path).take (m + 1))).length c, (txt path).drop (m + 1), ?_, (HS.out.1.drewN _).drewN _, Or.inr ⟨_, by rw [HP.out.1, HS.out.2, HN.out.1]; rfl, HN.out.2.2.2.2, hfin⟩⟩
            rw [strB, HN.out.2.1]
            rfl
        · have ht : ((ch.toNat : Int) == 47) = false := u8_ne (n := 47) (by decide) hc1
          go_wp2_with fail
          have hno : downP L (txt path) (m + 1) = downP L (txt path) m := by rw [downP, if_neg]; intro hc'; rw [hd] at hc'; exact hc1 (Option.some.inj hc'.1)
          have HN := Lib.hid hno
          clear hno
          go_quiet (fail)
          go_wp2_with fail
          exact ⟨⟨m, by rw [txt_len]; omega, rfl, HS.out.1.drewN _, by rw [HS.out.2, HN.out]⟩, by simp [intOf]⟩
  · obtain ⟨A, c, hv, hA⟩ := hf0.form
    obtain ⟨g, rfl⟩ := hA he
    rw [hv] at hl0 hf0
    have hP : findP L (txt path) = some ((false, txt path), []) := by
      unfold findP
      rw [if_neg (by simpa using he)]
    have HP := Lib.hid (And.intro hP (And.intro hf0 he))
    clear hP hf0 hn0 he
    go_enter Tryd.func52, Tryd.ntmps52
    go_wp2_with fail
    go_ret2
    exact ⟨_, [], rfl, Sm.refl _ _, Or.inr ⟨_, HP.out.1, HP.out.2.2, HP.out.2.1⟩⟩
end Go.Proofs.YtnopbhboamembaaDoor
