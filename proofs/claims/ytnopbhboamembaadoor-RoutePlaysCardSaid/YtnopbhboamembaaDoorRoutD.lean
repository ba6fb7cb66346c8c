/- The library's calls that route makes, in words of texts. -/
import Derived.Test.YtnopbhboamembaaDoorRoutC
import Derived.Sort.OwnSorted
namespace Go.Proofs.YtnopbhboamembaaDoor
open Go.RowKit Go.Proofs

theorem RowC.at {w : World} {A : Option Addr} {cs : List Value} (h : RowC w A cs) {j : Nat} {u : Value} (hj : cs[j]? = some u) : ∃ bb off, A = some ⟨bb, off, none⟩ ∧ bb < w.heap.size ∧ w.cell? ⟨bb, off + j, none⟩ = some u := h j u hj
theorem strV_at {l : List Txt} {k : Nat} (h : k < l.length) : (l.map strV)[k]? = some (.string ⟨l[k].toArray⟩) := by simp [h, strV]
theorem txt_mk (l : Txt) : txt ⟨l.toArray⟩ = l := by simp [txt]
theorem mk_txt (s : ByteArray) : (⟨(txt s).toArray⟩ : ByteArray) = s := by cases s; simp [txt]
theorem mk_inj {a b : Txt} (h : (⟨a.toArray⟩ : ByteArray) = ⟨b.toArray⟩) : a = b := by
  have := congrArg txt h
  rwa [txt_mk, txt_mk] at this

theorem contains_any (w : World) (A : Option Addr) (c : Nat) (l : List Txt) (x : ByteArray) (h : RowC w A (l.map strV)) (hl : l.length ≤ 1000000) :
    Calls Tryd.prog 50 #[.slice A l.length c, .string x] w fun e w' => e = .returned (.bool (l.contains (txt x))) ∧ w' = w := by
  by_cases h0 : l = []
  · subst h0
    exact Tryd.slices_Contains_string_empty A c x w
  · have hp : 0 < l.length := List.length_pos_iff.2 h0
    obtain ⟨bb, off, hA, _, _⟩ := h.at (strV_at hp)
    subst hA
    have := Tryd.slices_Contains_string bb off l.length c (l.map fun t => (⟨t.toArray⟩ : ByteArray)) x w (by simp) (by omega) (fun j hj => by
      rw [List.length_map] at hj
      obtain ⟨b', o', hA', _, hc⟩ := h.at (strV_at hj)
      injection hA' with hA'
      injection hA' with e1 e2
      subst e1 e2
      rw [hc]
      simp [List.getD, hj])
    refine this.mono fun e w' ⟨he, hw⟩ => ⟨?_, hw⟩
    rw [he]
    refine ret_b ?_
    rw [List.take_of_length_le (by simp), Bool.eq_iff_iff, Lib.containsS_iff, List.contains_iff_mem, List.mem_map]
    constructor
    · rintro ⟨t, ht, rfl⟩
      rw [txt_mk]; exact ht
    · intro ht
      exact ⟨_, ht, mk_txt x⟩
theorem contains_say {l : List Txt} {x : ByteArray} {r : Bool} (hr : Hid (l.contains (txt x) = r)) (w : World) (A : Option Addr) (c : Nat) (h : RowC w A (l.map strV)) (hl : l.length ≤ 1000000) :
    Calls Tryd.prog 50 #[.slice A l.length c, .string x] w fun e w' => e = .returned (.bool r) ∧ w' = w := by rw [← hr.out]; exact contains_any w A c l x h hl

theorem cloneT_any (w : World) (A : Option Addr) (c : Nat) (l : List Txt) (h : RowC w A (l.map strV)) (hl : l.length ≤ 1000000) (h0 : A = none → c = 0) :
    Calls Tryd.prog 51 #[.slice A l.length c] w fun e w' => ∃ v', e = .returned v' ∧ OwnT w' w.heap.size v' l ∧ Sm No w w' := by
  cases A with
  | none =>
    have hn : l = [] := by
      rcases List.eq_nil_or_concat l with e | ⟨a, b, e⟩
      · exact e
      · have hp : 0 < l.length := by rw [e]; simp
        obtain ⟨bb, off, hA, _⟩ := h.at (strV_at hp)
        cases hA
    subst hn
    exact (Tryd.slices_Clone_string_nil 0 c w).mono fun e w' ⟨he, hw⟩ => ⟨_, he, World.ownsRow_nil _ _ _ 1, hw ▸ Sm.refl _ _⟩
  | some a =>
    by_cases hn : l = []
    · subst hn
      exact (Tryd.slices_Clone_string_zero a c w).mono fun e w' ⟨v', he, hO, _, hb⟩ => ⟨v', he, hO, Sm.of_below hb No⟩
    · have hp : 0 < l.length := List.length_pos_iff.2 hn
      obtain ⟨bb, off, hA, _, _⟩ := h.at (strV_at hp)
      injection hA with hA
      subst hA
      refine (Tryd.slices_Clone_string bb off l.length c (l.map fun t => (⟨t.toArray⟩ : ByteArray)) w (by simp) (by omega) (fun j hj => by
        rw [List.length_map] at hj
        obtain ⟨b', o', hA', _, hc⟩ := h.at (strV_at hj)
        injection hA' with hA'
        injection hA' with e1 e2
        subst e1 e2
        rw [hc]
        simp [List.getD, hj])).mono fun e w' ⟨v', he, hO, _, hb⟩ => ⟨v', he, ?_, Sm.of_below hb No⟩
      rw [List.take_of_length_le (by simp), List.map_map] at hO
      exact hO

/-- What strings.CutSuffix says of a pattern. -/
theorem cutp_any (s : ByteArray) (hs : s.size ≤ 1000000) (w : World) :
    Calls Tryd.prog 45 #[.string s, .string ⟨#[47, 42]⟩] w fun e w' => e = .returned (.tuple #[.string (if wideL (txt s) = true then ⟨((txt s).take (s.size - 2)).toArray⟩ else s), .bool (wideL (txt s))]) ∧ w' = w := by
  refine (Tryd.strings_CutSuffix s ⟨#[47, 42]⟩ w (by omega)).mono fun e w' ⟨he, hw⟩ => ⟨?_, hw⟩
  rw [he]
  have hh : Lib.hasSuffix s.data.toList [47, 42] = wideL (txt s) := by
    rw [Bool.eq_iff_iff, wide_iff]
    unfold Lib.hasSuffix
    rw [List.isSuffixOf_iff_suffix]
    exact ⟨fun ⟨q, hq⟩ => ⟨q, hq.symm⟩, fun ⟨q, hq⟩ => ⟨q, hq.symm⟩⟩
  have ht : (⟨(Lib.trimSuffix s.data.toList [47, 42]).toArray⟩ : ByteArray) = if wideL (txt s) = true then ⟨((txt s).take (s.size - 2)).toArray⟩ else s := by
    unfold Lib.trimSuffix
    rw [hh]
    split
    · rw [← txt_len]; rfl
    · exact mk_txt s
  rw [show (⟨#[47, 42]⟩ : ByteArray).data.toList = [47, 42] from rfl, ht, hh]

/-- A slice of texts of the call's own, sorted where it lies. -/
theorem sort_own (w : World) (B : Nat) (v : Value) (l : List Txt) (h : OwnT w B v l) (hl : l.length ≤ 1000000) :
    Calls Tryd.prog 54 #[v] w fun e w' => e = .returned (.tuple #[]) ∧ OwnT w' B v (sortL l) ∧ Sm (fun b => v.ownBlock = some b) w w' := by
  by_cases hn : l = []
  · subst hn
    rcases own_row_form h with ⟨rfl, _, _⟩ | ⟨g, cap, rfl, _⟩
    · exact (Tryd.slices_Sort_string_none none 0 w).mono fun e w' ⟨he, hw⟩ => ⟨he, by rw [hw]; simpa [sortL] using h, hw ▸ Sm.refl _ _⟩
    · exact (Tryd.slices_Sort_string_none _ cap w).mono fun e w' ⟨he, hw⟩ => ⟨he, by rw [hw]; simpa [sortL] using h, hw ▸ Sm.refl _ _⟩
  · have h0 := h
    rcases h0.2 with ⟨_, h1⟩ | ⟨g, cap, cur, rfl, hg, hh, hnc, hcm, hcs, ht⟩
    · exact absurd (List.eq_nil_of_length_eq_zero h1) hn
    · have hlen : (sortL l).length = l.length := by simp [sortL]
      refine (Tryd.slices_Sort_string g 0 cap l w (holds_of_block hh (by rw [Nat.mul_one] at ht; exact ht)) (Array.getElem?_eq_some_iff.1 hh).1 (by omega)).mono fun e w' ⟨he, n, os, hw⟩ => ⟨he, ?_, ?_⟩
      · rw [hw]
        have := ownsRow_sorted (os := os) (n := n) hlen hg hh hnc hcm hcs
        unfold OwnT
        rw [hlen]
        exact this
      · rw [hw]
        exact (Sm.refl _ w).grown (grownBy_sorted _) (fun k hk => Or.inl hk)

theorem compact_len (l : List Txt) : (Lib.compact l).length ≤ l.length := by
  unfold Lib.compact Lib.compactUpTo
  rw [List.length_map]
  refine Nat.le_trans (List.length_filter_le _ _) ?_
  simp
/-- .. and what is there twice struck. -/
theorem compact_own (w : World) (B : Nat) (v : Value) (l : List Txt) (h : OwnT w B v l) (hl : l.length ≤ 1000000) :
    Calls Tryd.prog 55 #[v] w fun e w' => ∃ v', e = .returned v' ∧ OwnT w' B v' (Lib.compact l) ∧ Sm (fun b => v.ownBlock = some b) w w' := by
  by_cases hn : l = []
  · subst hn
    rcases own_row_form h with ⟨rfl, _, _⟩ | ⟨g, cap, rfl, _⟩
    · exact (Tryd.slices_Compact_string_empty none 0 w).mono fun e w' ⟨he, hw⟩ => ⟨_, he, by rw [hw]; exact h, hw ▸ Sm.refl _ _⟩
    · exact (Tryd.slices_Compact_string_empty _ cap w).mono fun e w' ⟨he, hw⟩ => ⟨_, he, by rw [hw]; exact h, hw ▸ Sm.refl _ _⟩
  · have h0 := h
    rcases h0.2 with ⟨_, h1⟩ | ⟨g, cap, cur, rfl, hg, hh, hnc, hcm, hcs, ht⟩
    · exact absurd (List.eq_nil_of_length_eq_zero h1) hn
    · have hcl := compact_len l
      refine (Tryd.slices_Compact_string g 0 cap l w (holds_of_block hh (by rw [Nat.mul_one] at ht; exact ht)) (by omega) hnc).mono fun e w' ⟨he, n, hw⟩ => ⟨_, he, ?_, ?_⟩
      · have hlen : (Lib.compact l ++ List.replicate (l.length - (Lib.compact l).length) ([] : Txt)).length = l.length := by simp; omega
        have h2 := ownsRow_sorted (os := #[]) (n := n) hlen hg hh hnc hcm hcs
        have e0 : Sort.grow (Sort.putRow encStr (Sort.ahead w n) g 0 (Lib.compact l ++ List.replicate (l.length - (Lib.compact l).length) ([] : Txt)).toArray) #[] = w' := by rw [hw]; exact Sort.grow_empty _
        rw [e0] at h2
        rcases h2.2 with ⟨e1, _⟩ | ⟨g', cap', cur', e1, hg', hh', hnc', hcm', hcs', ht'⟩
        · cases e1
        · injection e1 with e1 e2 e3
          injection e1 with e1
          injection e1 with e1
          subst e1 e3
          refine ⟨by simp, Or.inr ⟨g, cap, cur', rfl, hg', hh', by omega, hcm', hcs', ?_⟩⟩
          rw [Nat.mul_one] at ht' ⊢
          have : (cur'.toList.take l.length).take (Lib.compact l).length = cur'.toList.take (Lib.compact l).length := by rw [List.take_take, Nat.min_eq_left hcl]
          rw [← this, ht', List.map_append]
          exact List.take_left' (by simp)
      · have := (Sm.refl (fun b => (Value.slice (some ⟨g, 0, none⟩) l.length cap).ownBlock = some b) w).grown (grownBy_sorted (n := n) (os := #[]) (g := g) (Lib.compact l ++ List.replicate (l.length - (Lib.compact l).length) ([] : Txt)).toArray) (fun k hk => Or.inl hk)
        rw [hw]
        rw [Sort.grow_empty] at this
        exact this

theorem add1_any (s : ByteArray) (hs : s.size ≤ 1000000) (w : World) :
    Calls Tryd.prog 47 #[.string s] w fun e w' => e = .returned (.bool (!tokL (txt s))) ∧ Sm No w w' := by
  obtain ⟨f, hf⟩ : ∃ f, tokL (txt s) = f := ⟨_, rfl⟩
  rw [hf]
  have HF := Lib.hid hf
  clear hf
  go_enter Tryd.func47, Tryd.ntmps47
  go_wp2_with fail
  refine (isToken_say HF hs _).mono ?_
  rintro e w' ⟨rfl, rfl⟩
  go_wp2_with fail
  go_ret
  exact ⟨rfl, Sm.refl _ _⟩
/-- A route in a block of its own. -/
def RtBk (w : World) (g : Nat) (x : Lt) : Prop := ∃ A c, Bk w g 86 #[.int .i64 x.id, .slice A x.ms.length c] ∧ RowC w A (x.ms.map strV) ∧ x.ms.length ≤ 1000000
theorem RtBk.no {w w' : World} {g : Nat} {x : Lt} (h : RtBk w g x) (hs : Sm No w w') : RtBk w' g x := by
  obtain ⟨A, c, h1, h2, h3⟩ := h
  exact ⟨A, c, h1.sm hs (fun h => h), h2.no hs, h3⟩
theorem add2_any (s : ByteArray) (w : World) (g : Nat) (x : Lt) (hx : RtBk w g x) :
    Calls Tryd.prog 49 #[.string s, .pointer (some ⟨g, 0, none⟩)] w fun e w' => e = .returned (.bool (x.ms.contains (txt s))) ∧ Sm No w w' := by
  obtain ⟨A, c, hb, hR, hl⟩ := hx
  have c1 := hb.at 1 (v := .slice A x.ms.length c) rfl
  obtain ⟨r, hr⟩ : ∃ r, x.ms.contains (txt s) = r := ⟨_, rfl⟩
  rw [hr]
  have HC := Lib.hid hr
  have HR := Lib.hid (And.intro hR hb)
  clear hR hb hr
  go_enter Tryd.func49, Tryd.ntmps49
  go_wp2_with fail
  refine (contains_say HC _ A c HR.out.1 hl).mono ?_
  rintro e w' ⟨rfl, rfl⟩
  go_wp2_with fail
  go_ret
  exact ⟨rfl, Sm.refl _ _⟩

def IdxT (w : World) (l : List Txt) (p : Txt → Bool) (i : Value) (wr : World) : Prop :=
  ∃ k : Nat, k ≤ l.length ∧ i = .int .i64 k ∧ Sm No w wr ∧ ∀ x ∈ l.take k, p x = false
theorem any_take {l : List Txt} {p : Txt → Bool} {k : Nat} (h : ∀ x ∈ l.take k, p x = false) (hk : ¬ k < l.length) : l.any p = false := by
  rw [List.any_eq_false]
  intro x hx
  rw [List.take_of_length_le (by omega)] at h
  simpa using h x hx
theorem take_step {l : List Txt} {p : Txt → Bool} {k : Nat} (h : ∀ x ∈ l.take k, p x = false) (hk : k < l.length) (hp : p l[k] = false) : ∀ x ∈ l.take (k + 1), p x = false := by
  intro x hx
  rw [List.take_succ_eq_append_getElem hk, List.mem_append, List.mem_singleton] at hx
  rcases hx with hx | rfl
  · exact h x hx
  · exact hp

set_option maxRecDepth 100000 in
set_option maxHeartbeats 4000000 in
theorem idx1_any (w : World) (A : Option Addr) (c : Nat) (l : List Txt) (hA : RowC w A (l.map strV)) (hl : l.length ≤ 1000000) (hs : ∀ t ∈ l, t.length ≤ 1000000) :
    Calls Tryd.prog 73 #[.slice A l.length c, .func (.func 47) #[] #[]] w
      fun e w' => ∃ r : Int, e = .returned (.int .i64 r) ∧ (decide (0 ≤ r) = l.any (fun m => !tokL m)) ∧ Sm No w w' := by
  obtain ⟨p, hp⟩ : ∃ p : Txt → Bool, (fun m => !tokL m) = p := ⟨_, rfl⟩
  rw [hp]
  have HQ := Lib.hid hp
  have HA := Lib.hid (And.intro hA (And.intro hs True.intro))
  clear hA hs hp
  go_enter Tryd.func73, Tryd.ntmps73
  go_wp2_with fail
  go_loopw [8] (fun i wr => IdxT w l p i wr) (fun i _ => l.length - (intOf i).toNat)
  case atStart => exact ⟨0, Nat.zero_le _, rfl, Sm.refl _ _, fun x h => by simp at h⟩
  case round =>
    obtain ⟨k, hk, rfl, hsm, hno⟩ := hrel
    have HS := Lib.hid (And.intro hsm hno)
    clear hsm hno
    by_cases hlt : k < l.length
    · obtain ⟨bb, off, hAe, hbb, r0⟩ := (HA.out.1.no HS.out.1).at (strV_at hlt)
      subst hAe
      have s0 := HA.out.2.1 _ (List.getElem_mem hlt)
      obtain ⟨s, hsk⟩ : ∃ s : ByteArray, (⟨l[k].toArray⟩ : ByteArray) = s := ⟨_, rfl⟩
      have hts : txt s = l[k] := by rw [← hsk, txt_mk]
      rw [hsk] at r0
      have hsz : s.size ≤ 1000000 := by rw [← txt_len, hts]; exact s0
      have k1 : (0 : Int) ≤ (k : Int) := by omega
      have k2 : (k : Int) < (l.length : Int) := by omega
      obtain ⟨f, hf⟩ : ∃ f, p l[k] = f := ⟨_, rfl⟩
      have HD := add1_any s hsz wr
      rw [hts] at HD
      have hpk : (fun m => !tokL m) l[k] = p l[k] := by rw [HQ.out]
      dsimp only at hpk
      rw [hpk, hf] at HD
      have HF := Lib.hid (And.intro hf HD)
      clear hf hsk hts HD s0 hpk
      go_wp2_with fail
      refine HF.out.2.mono ?_
      rintro e w1 ⟨rfl, hs1⟩
      have H1 := Lib.hid (HS.out.1.trans hs1 (fun _ _ h => h))
      clear hs1
      cases f
      · have hno := take_step HS.out.2 hlt HF.out.1
        have HN := Lib.hid hno
        clear hno
        go_wp2_with fail
        exact ⟨⟨k + 1, by omega, by go_num, H1.out, HN.out⟩, by simp [intOf]; omega⟩
      · have hyes : l.any p = true := List.any_eq_true.2 ⟨l[k], List.getElem_mem hlt, HF.out.1⟩
        have HN := Lib.hid hyes
        clear hyes
        go_wp2_with fail
        go_ret
        exact ⟨k, rfl, by rw [HN.out]; simp, H1.out⟩
    · have hno := any_take HS.out.2 hlt
      have HN := Lib.hid hno
      clear hno
      go_wp2_with fail
      go_ret
      exact ⟨-1, rfl, by rw [HN.out]; rfl, HS.out.1⟩

set_option maxRecDepth 100000 in
set_option maxHeartbeats 1000000 in
theorem has1_any (w : World) (A : Option Addr) (c : Nat) (l : List Txt) (hA : RowC w A (l.map strV)) (hl : l.length ≤ 1000000) (hs : ∀ t ∈ l, t.length ≤ 1000000) :
    Calls Tryd.prog 41 #[.slice A l.length c, .func (.func 47) #[] #[]] w
      fun e w' => e = .returned (.bool (l.any (fun m => !tokL m))) ∧ Sm No w w' := by
  have HI0 := idx1_any w A c l hA hl hs
  obtain ⟨p, hp⟩ : ∃ p : Txt → Bool, (fun m => !tokL m) = p := ⟨_, rfl⟩
  rw [hp] at HI0 ⊢
  have HI := Lib.hid HI0
  clear hA hs hp HI0
  go_enter Tryd.func41, Tryd.ntmps41
  go_wp2_with fail
  refine HI.out.mono ?_
  rintro e w1 ⟨r, rfl, hr, hs1⟩
  have HR := Lib.hid (And.intro hr hs1)
  clear hr hs1
  go_wp2_with fail
  all_goals
    go_ret
    exact ⟨ret_b (by rw [← HR.out.1]), HR.out.2⟩

set_option maxRecDepth 100000 in
set_option maxHeartbeats 4000000 in
theorem idx2_any (w : World) (A : Option Addr) (c : Nat) (l : List Txt) (g : Nat) (x : Lt) (hx : RtBk w g x) (hA : RowC w A (l.map strV)) (hl : l.length ≤ 1000000) (hs : ∀ t ∈ l, t.length ≤ 1000000) :
    Calls Tryd.prog 73 #[.slice A l.length c, .func (.func 49) #[] #[.pointer (some ⟨g, 0, none⟩)]] w
      fun e w' => ∃ r : Int, e = .returned (.int .i64 r) ∧ (decide (0 ≤ r) = l.any (fun m => x.ms.contains m)) ∧ Sm No w w' := by
  obtain ⟨p, hp⟩ : ∃ p : Txt → Bool, (fun m => x.ms.contains m) = p := ⟨_, rfl⟩
  rw [hp]
  have HQ := Lib.hid hp
  have HA := Lib.hid (And.intro hA (And.intro hs hx))
  clear hA hs hp hx
  go_enter Tryd.func73, Tryd.ntmps73
  go_wp2_with fail
  go_loopw [8] (fun i wr => IdxT w l p i wr) (fun i _ => l.length - (intOf i).toNat)
  case atStart => exact ⟨0, Nat.zero_le _, rfl, Sm.refl _ _, fun x h => by simp at h⟩
  case round =>
    obtain ⟨k, hk, rfl, hsm, hno⟩ := hrel
    have HS := Lib.hid (And.intro hsm hno)
    clear hsm hno
    by_cases hlt : k < l.length
    · obtain ⟨bb, off, hAe, hbb, r0⟩ := (HA.out.1.no HS.out.1).at (strV_at hlt)
      subst hAe
      have s0 := HA.out.2.1 _ (List.getElem_mem hlt)
      obtain ⟨s, hsk⟩ : ∃ s : ByteArray, (⟨l[k].toArray⟩ : ByteArray) = s := ⟨_, rfl⟩
      have hts : txt s = l[k] := by rw [← hsk, txt_mk]
      rw [hsk] at r0
      have hsz : s.size ≤ 1000000 := by rw [← txt_len, hts]; exact s0
      have k1 : (0 : Int) ≤ (k : Int) := by omega
      have k2 : (k : Int) < (l.length : Int) := by omega
      obtain ⟨f, hf⟩ : ∃ f, p l[k] = f := ⟨_, rfl⟩
      have HD := add2_any s wr g x (HA.out.2.2.no HS.out.1)
      rw [hts] at HD
      have hpk : (fun m => x.ms.contains m) l[k] = p l[k] := by rw [HQ.out]
      dsimp only at hpk
      rw [hpk, hf] at HD
      have HF := Lib.hid (And.intro hf HD)
      clear hf hsk hts HD s0 hpk
      go_wp2_with fail
      refine HF.out.2.mono ?_
      rintro e w1 ⟨rfl, hs1⟩
      have H1 := Lib.hid (HS.out.1.trans hs1 (fun _ _ h => h))
      clear hs1
      cases f
      · have hno := take_step HS.out.2 hlt HF.out.1
        have HN := Lib.hid hno
        clear hno
        go_wp2_with fail
        exact ⟨⟨k + 1, by omega, by go_num, H1.out, HN.out⟩, by simp [intOf]; omega⟩
      · have hyes : l.any p = true := List.any_eq_true.2 ⟨l[k], List.getElem_mem hlt, HF.out.1⟩
        have HN := Lib.hid hyes
        clear hyes
        go_wp2_with fail
        go_ret
        exact ⟨k, rfl, by rw [HN.out]; simp, H1.out⟩
    · have hno := any_take HS.out.2 hlt
      have HN := Lib.hid hno
      clear hno
      go_wp2_with fail
      go_ret
      exact ⟨-1, rfl, by rw [HN.out]; rfl, HS.out.1⟩

set_option maxRecDepth 100000 in
set_option maxHeartbeats 1000000 in
theorem has2_any (w : World) (A : Option Addr) (c : Nat) (l : List Txt) (g : Nat) (x : Lt) (hx : RtBk w g x) (hA : RowC w A (l.map strV)) (hl : l.length ≤ 1000000) (hs : ∀ t ∈ l, t.length ≤ 1000000) :
    Calls Tryd.prog 41 #[.slice A l.length c, .func (.func 49) #[] #[.pointer (some ⟨g, 0, none⟩)]] w
      fun e w' => e = .returned (.bool (l.any (fun m => x.ms.contains m))) ∧ Sm No w w' := by
  have HI0 := idx2_any w A c l g x hx hA hl hs
  obtain ⟨p, hp⟩ : ∃ p : Txt → Bool, (fun m => x.ms.contains m) = p := ⟨_, rfl⟩
  rw [hp] at HI0 ⊢
  have HI := Lib.hid HI0
  clear hA hs hp HI0 hx
  go_enter Tryd.func41, Tryd.ntmps41
  go_wp2_with fail
  refine HI.out.mono ?_
  rintro e w1 ⟨r, rfl, hr, hs1⟩
  have HR := Lib.hid (And.intro hr hs1)
  clear hr hs1
  go_wp2_with fail
  all_goals
    go_ret
    exact ⟨ret_b (by rw [← HR.out.1]), HR.out.2⟩
end Go.Proofs.YtnopbhboamembaaDoor
