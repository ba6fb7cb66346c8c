/- field's Drop: which fields go. -/
import Derived.Test.YtnopbhboamembaaDoorFieldM
namespace Go.Proofs.YtnopbhboamembaaDoor
open Go.RowKit Go.Proofs

/-- Is a name among some, in whatever size? -/
def amongL (names : List ByteArray) (x : Fld) : Bool := names.any fun s => sameL s.data.toList x.1.data.toList

theorem d11_any (w : World) (s : ByteArray) (g : Nat) (x : Fld) (hb : Bk w g 47 #[.string x.1, .string x.2]) (hs : s.size ≤ 1000000) (hx : x.1.size ≤ 1000000) :
    Calls Tryd.prog 42 #[.string s, .pointer (some ⟨g, 0, none⟩)] w fun e w' => e = .returned (.bool (sameL s.data.toList x.1.data.toList)) ∧ Sm No w w' := by
  have c0 := hb.at 0 (v := .string x.1) rfl
  clear hb
  obtain ⟨f, hf⟩ : ∃ f, sameL s.data.toList x.1.data.toList = f := ⟨_, rfl⟩
  rw [hf]
  have HF := Lib.hid hf
  clear hf
  go_enter Tryd.func42, Tryd.ntmps42
  go_wp2_with fail
  refine (same_say HF hs hx _).mono ?_
  rintro e w' ⟨rfl, hs1⟩
  go_wp2_with fail
  go_ret
  exact ⟨rfl, hs1⟩

/-- The first name of a list that is the field's; how many there are, if none is. -/
def firstL (names : List ByteArray) (x : Fld) : Nat := names.findIdx fun s => sameL s.data.toList x.1.data.toList
def IdxRel (w : World) (names : List ByteArray) (x : Fld) (i : Value) (wr : World) : Prop :=
  ∃ k : Nat, k ≤ names.length ∧ i = .int .i64 k ∧ Sm No w wr ∧ ∀ j, (h : j < names.length) → j < k → sameL names[j].data.toList x.1.data.toList = false

set_option maxRecDepth 100000 in
set_option maxHeartbeats 4000000 in
theorem indexf_any (w : World) (A : Option Addr) (c : Nat) (names : List ByteArray) (g : Nat) (x : Fld) (hb : Bk w g 47 #[.string x.1, .string x.2]) (hA : SRow w A names) (hl : names.length ≤ 1000000) (hs : ∀ s ∈ names, s.size ≤ 1000000) (hx : x.1.size ≤ 1000000) :
    Calls Tryd.prog 73 #[.slice A names.length c, .func (.func 42) #[] #[.pointer (some ⟨g, 0, none⟩)]] w
      fun e w' => ∃ r : Int, e = .returned (.int .i64 r) ∧ (decide (0 ≤ r) = amongL names x) ∧ Sm No w w' := by
  have HA := Lib.hid (And.intro hA (And.intro hs hb))
  clear hA hs hb
  go_enter Tryd.func73, Tryd.ntmps73
  go_wp2_with fail
  go_loopw [8] (fun i wr => IdxRel w names x i wr) (fun i _ => names.length - (intOf i).toNat)
  case atStart => exact ⟨0, Nat.zero_le _, rfl, Sm.refl _ _, fun j _ h => absurd h (by omega)⟩
  case round =>
    obtain ⟨k, hk, rfl, hsm, hno⟩ := hrel
    have HS := Lib.hid (And.intro hsm hno)
    clear hsm hno
    by_cases hlt : k < names.length
    · obtain ⟨bb, off, hAe, hbb, r0⟩ := (HA.out.1.no HS.out.1) k hlt
      subst hAe
      have s0 := HA.out.2.1 _ (List.getElem_mem hlt)
      obtain ⟨s, hsk⟩ : ∃ s, names[k] = s := ⟨_, rfl⟩
      rw [hsk] at r0 s0
      have HK := Lib.hid hsk
      clear hsk
      have k1 : (0 : Int) ≤ (k : Int) := by omega
      have k2 : (k : Int) < (names.length : Int) := by omega
      obtain ⟨f, hf⟩ : ∃ f, sameL s.data.toList x.1.data.toList = f := ⟨_, rfl⟩
      have HD := Lib.hid (d11_any wr s g x (HA.out.2.2.sm HS.out.1 (fun h => h)) s0 hx)
      rw [hf] at HD
      have HF := Lib.hid hf
      clear hf
      go_wp2_with fail
      refine HD.out.mono ?_
      rintro e w1 ⟨rfl, hs1⟩
      have H1 := Lib.hid (HS.out.1.trans hs1 (fun _ _ h => h))
      clear hs1
      cases f
      · have hno : ∀ j, (h : j < names.length) → j < k + 1 → sameL names[j].data.toList x.1.data.toList = false := fun j hj hjk => by
          by_cases e : j = k
          · subst e; rw [HK.out]; exact HF.out
          · exact HS.out.2 j hj (by omega)
        have HN := Lib.hid hno
        clear hno
        go_wp2_with fail
        exact ⟨⟨k + 1, by omega, by go_num, H1.out, HN.out⟩, by simp [intOf]; omega⟩
      · have hyes : amongL names x = true := List.any_eq_true.2 ⟨s, by rw [← HK.out]; exact List.getElem_mem hlt, HF.out⟩
        have HN := Lib.hid hyes
        clear hyes
        go_wp2_with fail
        go_ret
        exact ⟨k, rfl, by rw [HN.out]; simp, H1.out⟩
    · have hno : amongL names x = false := by
        rw [amongL, List.any_eq_false]
        intro s hs
        obtain ⟨j, hj, rfl⟩ := List.getElem_of_mem hs
        simpa using HS.out.2 j hj (by omega)
      have HN := Lib.hid hno
      clear hno
      go_wp2_with fail
      go_ret
      exact ⟨-1, rfl, by rw [HN.out]; rfl, HS.out.1⟩

set_option maxRecDepth 100000 in
set_option maxHeartbeats 1000000 in
theorem containsf_any (w : World) (A : Option Addr) (c : Nat) (names : List ByteArray) (g : Nat) (x : Fld) (hb : Bk w g 47 #[.string x.1, .string x.2]) (hA : SRow w A names) (hl : names.length ≤ 1000000) (hs : ∀ s ∈ names, s.size ≤ 1000000) (hx : x.1.size ≤ 1000000) :
    Calls Tryd.prog 41 #[.slice A names.length c, .func (.func 42) #[] #[.pointer (some ⟨g, 0, none⟩)]] w
      fun e w' => e = .returned (.bool (amongL names x)) ∧ Sm No w w' := by
  have HI := Lib.hid (indexf_any w A c names g x hb hA hl hs hx)
  clear hb hA hs hx
  go_enter Tryd.func41, Tryd.ntmps41
  go_wp2_with fail
  refine HI.out.mono ?_
  rintro e w1 ⟨r, rfl, hr, hs1⟩
  have HR := Lib.hid (And.intro hr hs1)
  clear hr hs1
  go_wp2_with fail
  all_goals
    go_ret
    exact ⟨ret_b (by rw [← HR.out.1]), HR.out.2⟩

set_option maxRecDepth 100000 in
set_option maxHeartbeats 1000000 in
/-- The closure of Drop: does a field go? -/
theorem d1_any (w : World) (gn : Nat) (A : Option Addr) (c : Nat) (names : List ByteArray) (x : Fld) (hb : Bk w gn 39 #[.slice A names.length c]) (hA : SRow w A names) (hl : names.length ≤ 1000000) (hs : ∀ s ∈ names, s.size ≤ 1000000) (hx : x.1.size ≤ 1000000) :
    Calls Tryd.prog 40 #[.agg #[.string x.1, .string x.2], .pointer (some ⟨gn, 0, none⟩)] w fun e w' => e = .returned (.bool (amongL names x)) ∧ Sm No w w' := by
  have hs1 := (Sm.refl No w).alloc (.cells #[.string x.1, .string x.2] 47)
  have hbx := Bk.new w 47 #[.string x.1, .string x.2]
  have c0 := hb.at 0 (v := .slice A names.length c) rfl
  have HC := Lib.hid (containsf_any (w.alloc (.cells #[.string x.1, .string x.2] 47)) A c names w.heap.size x hbx (hA.no hs1) hl hs hx)
  have hlt := hb.lt
  have HS := Lib.hid hs1
  clear hs1 hbx hA hs hx hb
  go_enter Tryd.func40, Tryd.ntmps40
  go_wp2_with fail
  refine HC.out.mono ?_
  rintro e w1 ⟨rfl, hs1⟩
  go_wp2_with fail
  go_ret
  exact ⟨rfl, HS.out.trans hs1 (fun _ _ h => h)⟩

/-- What the closure of Drop leans on. -/
def Names (w : World) (gn : Nat) (names : List ByteArray) : Prop := ∃ A c, Bk w gn 39 #[.slice A names.length c] ∧ SRow w A names ∧ (∀ a, A = some a → a.block < w.heap.size ∧ a.block ≠ gn) ∧ names.length ≤ 1000000 ∧ ∀ s ∈ names, s.size ≤ 1000000
theorem Names.call {w : World} {gn : Nat} {names : List ByteArray} (h : Names w gn names) (x : Fld) (hx : x.1.size ≤ 1000000) :
    Calls Tryd.prog 40 #[.agg #[.string x.1, .string x.2], .pointer (some ⟨gn, 0, none⟩)] w fun e w' => e = .returned (.bool (amongL names x)) ∧ Sm No w w' := by
  obtain ⟨A, c, hb, hA, _, hl, hs⟩ := h
  exact d1_any w gn A c names x hb hA hl hs hx

def IdxRel2 (w : World) (names : List ByteArray) (l : List Fld) (i : Value) (wr : World) : Prop :=
  ∃ k : Nat, k ≤ l.length ∧ i = .int .i64 k ∧ Sm No w wr ∧ ∀ x ∈ l.take k, amongL names x = false
/-- Where the first field that goes stands. -/
def FirstAt (names : List ByteArray) (l : List Fld) (r : Int) : Prop := (r = -1 ∧ ∀ x ∈ l, amongL names x = false) ∨ ∃ k : Nat, r = k ∧ ∃ h : k < l.length, amongL names l[k] = true ∧ ∀ x ∈ l.take k, amongL names x = false
def IndexPost (w : World) (names : List ByteArray) (l : List Fld) (e : Ending) (w' : World) : Prop := ∃ r : Int, e = .returned (.int .i64 r) ∧ FirstAt names l r ∧ Sm No w w'

theorem Names.no {w w' : World} {gn : Nat} {names : List ByteArray} (h : Names w gn names) (hs : Sm No w w') : Names w' gn names := by
  obtain ⟨A, c, hb, hA, hl⟩ := h
  exact ⟨A, c, hb.sm hs (fun h => h), hA.no hs, fun a ha => ⟨Nat.lt_of_lt_of_le (hl.1 a ha).1 hs.size, (hl.1 a ha).2⟩, hl.2⟩

set_option maxRecDepth 100000 in
set_option maxHeartbeats 4000000 in
theorem indexF_any (w : World) (A : Option Addr) (c gn : Nat) (names : List ByteArray) (l : List Fld) (hN : Names w gn names) (hA : FRow w A l) (hl : l.length ≤ 1000000) (hsh : Short l) :
    Calls Tryd.prog 72 #[.slice A l.length c, .func (.func 40) #[] #[.pointer (some ⟨gn, 0, none⟩)]] w (IndexPost w names l) := by
  have HA := Lib.hid (And.intro hA (And.intro hN hsh))
  clear hA hN hsh
  go_enter Tryd.func72, Tryd.ntmps72
  go_wp2_with fail
  go_loopw [8] (fun i wr => IdxRel2 w names l i wr) (fun i _ => l.length - (intOf i).toNat)
  case atStart => exact ⟨0, Nat.zero_le _, rfl, Sm.refl _ _, fun x h => by simp at h⟩
  case round =>
    obtain ⟨k, hk, rfl, hsm, hno⟩ := hrel
    have HS := Lib.hid (And.intro hsm hno)
    clear hsm hno
    by_cases hlt : k < l.length
    · obtain ⟨bb, off, hAe, hbb, r0, r1⟩ := (HA.out.1.no HS.out.1) k hlt
      subst hAe
      obtain ⟨s0, _⟩ := HA.out.2.2 _ (List.getElem_mem hlt)
      obtain ⟨⟨nm, vl⟩, hsk⟩ : ∃ s, l[k] = s := ⟨_, rfl⟩
      rw [hsk] at r0 r1 s0
      dsimp only at r0 r1 s0
      have HK := Lib.hid hsk
      clear hsk
      have k1 : (0 : Int) ≤ (k : Int) := by omega
      have k2 : (k : Int) < (l.length : Int) := by omega
      obtain ⟨f, hf⟩ : ∃ f, amongL names (nm, vl) = f := ⟨_, rfl⟩
      have HD := Lib.hid ((HA.out.2.1.no HS.out.1).call (nm, vl) s0)
      rw [hf] at HD
      have HF := Lib.hid hf
      clear hf
      go_wp2_with fail
      refine HD.out.mono ?_
      rintro e w1 ⟨rfl, hs1⟩
      have H1 := Lib.hid (HS.out.1.trans hs1 (fun _ _ h => h))
      clear hs1
      cases f
      · have hno : ∀ y ∈ l.take (k + 1), amongL names y = false := fun y hy => by
          rw [List.take_succ_eq_append_getElem hlt, List.mem_append] at hy
          rcases hy with hy | hy
          · exact HS.out.2 y hy
          · obtain rfl := List.mem_singleton.1 hy; rw [HK.out]; exact HF.out
        have HN := Lib.hid hno
        clear hno
        go_wp2_with fail
        exact ⟨⟨k + 1, by omega, by go_num, H1.out, HN.out⟩, by simp [intOf]; omega⟩
      · go_wp2_with fail
        go_ret
        exact ⟨k, rfl, Or.inr ⟨k, rfl, hlt, by rw [HK.out]; exact HF.out, HS.out.2⟩, H1.out⟩
    · have hno : ∀ y ∈ l, amongL names y = false := fun y hy => HS.out.2 y (by rw [List.take_of_length_le (by omega)]; exact hy)
      have HN := Lib.hid hno
      clear hno
      go_wp2_with fail
      go_ret
      exact ⟨-1, rfl, Or.inl ⟨rfl, HN.out⟩, HS.out.1⟩
end Go.Proofs.YtnopbhboamembaaDoor
