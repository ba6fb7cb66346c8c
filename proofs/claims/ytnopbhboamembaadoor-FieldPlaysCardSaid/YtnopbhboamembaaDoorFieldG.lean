/- field's Get. -/
import Derived.Test.YtnopbhboamembaaDoorFieldF
namespace Go.Proofs.YtnopbhboamembaaDoor
open Go.RowKit Go.Proofs

def sep : List UInt8 := [44, 32]
def getL (l : List Fld) (name : ByteArray) : List UInt8 := Lib.join ((valuesL l name).map (·.data.toList)) sep

theorem lens_le (xs : List ByteArray) (h : ∀ x ∈ xs, x.size ≤ 1000000) : Lib.lens (xs.map (·.data.toList)) ≤ 1000000 * xs.length := by
  induction xs with
  | nil => simp [Lib.lens]
  | cons x xs ih =>
    have h1 := ih (fun y hy => h y (List.mem_cons_of_mem _ hy))
    have h2 := h x (List.mem_cons_self ..)
    have h3 : x.data.toList.length = x.size := by simp
    simp only [Lib.lens, List.map_cons, List.sum_cons, List.length_cons] at h1 ⊢
    omega
theorem join_le (xs : List ByteArray) (h : ∀ x ∈ xs, x.size ≤ 1000000) (hl : xs.length ≤ 1000) : (Lib.join (xs.map (·.data.toList)) sep).length ≤ 140737488355328 := by
  cases xs with
  | nil => simp [Lib.join_nil]
  | cons x xs =>
    rw [List.map_cons, Lib.join_length]
    have := lens_le (x :: xs) h
    simp only [List.map_cons, List.length_cons, List.length_map] at this hl ⊢
    have h2 : sep.length = 2 := rfl
    rw [h2]
    omega
theorem valuesL_short {l : List Fld} {name : ByteArray} (h : Short l) : ∀ x ∈ valuesL l name, x.size ≤ 1000000 := by
  intro x hx
  unfold valuesL at hx
  obtain ⟨y, hy, rfl⟩ := List.mem_map.mp hx
  exact (h y (List.mem_filter.mp hy).1).2
theorem valuesL_len (l : List Fld) (name : ByteArray) : (valuesL l name).length ≤ l.length := by
  unfold valuesL
  rw [List.length_map]
  exact List.length_filter_le _ _

/-- strings.Join at a slice of texts of the call's own. -/
theorem join_own (w : World) (B : Nat) (v : Value) (xs : List ByteArray) (hO : OwnS w B v xs) (h : ∀ x ∈ xs, x.size ≤ 1000000) (hl : xs.length ≤ 1000) :
    Calls Tryd.prog 38 #[v, .string ⟨#[44, 32]⟩] w fun e w' => e = .returned (.string ⟨(Lib.join (xs.map (·.data.toList)) sep).toArray⟩) ∧ Sm No w w' := by
  rcases own_row_form hO with ⟨rfl, h0, _⟩ | ⟨b, cap, rfl, _, _, hb, hcap, hc, _⟩
  · have : xs = [] := List.eq_nil_of_length_eq_zero h0
    subst this
    exact (Tryd.strings_Join_none none 0 _ w).mono fun e w' ⟨he, hw⟩ => ⟨he, hw ▸ Sm.refl _ _⟩
  · exact (Tryd.strings_Join b 0 cap xs ⟨#[44, 32]⟩ w (fun j x hj => by
      rw [Nat.zero_add]; exact hc j _ (by simp [hj])) hb (by omega) hcap (join_le xs h hl)).mono fun e w' ⟨he, hB⟩ => ⟨he, Sm.of_below hB No⟩

set_option maxHeartbeats 1000000 in
theorem get_any (w : World) (B g : Nat) (v : Value) (l : List Fld) (name : ByteArray) (hF : IsFields w B g 69 v l) (hl : l.length ≤ 24) (hshort : Short l) (hn : name.size ≤ 1000000) :
    Calls Tryd.prog 17 #[.pointer (some ⟨g, 0, none⟩), .string name] w fun e w' => e = .returned (.string ⟨(getL l name).toArray⟩) ∧ Sm No w w' := by
  have HV := Lib.hid (values_any w B g v l name hF hl hshort hn)
  have HX := Lib.hid (And.intro (valuesL_short (name := name) hshort) (valuesL_len l name))
  clear hF hshort
  obtain ⟨r, hr⟩ : ∃ r, (⟨(getL l name).toArray⟩ : ByteArray) = r := ⟨_, rfl⟩
  have HJ := Lib.hid (fun (w : World) (B : Nat) (v : Value) (hO : OwnS w B v (valuesL l name)) => hr ▸ join_own w B v _ hO HX.out.1 (by have := HX.out.2; omega))
  rw [hr]
  clear hr
  go_enter Tryd.func17, Tryd.ntmps17
  go_wp2_with fail
  refine HV.out.mono ?_
  rintro e w1 ⟨vs, rfl, hO, hs⟩
  have HO := Lib.hid (And.intro hO hs)
  clear hO hs
  go_wp2_with fail
  refine (HJ.out _ _ _ HO.out.1).mono ?_
  rintro e w2 ⟨rfl, hs2⟩
  go_wp2_with fail
  go_ret
  exact ⟨rfl, HO.out.2.trans hs2 (fun _ _ h => h)⟩
end Go.Proofs.YtnopbhboamembaaDoor
