/- usherlaw19: two lists of texts; known. -/
import Derived.Test.YtiglfbimijnpcaaGreatDoorQRoutG
import Derived.Deep.QuietTactic
import Derived.BigQuiet
namespace Go.Proofs.YtiglfbimijnpcaaGreatDoor
open Go.RowKit Go.Proofs

theorem rowC_bk {w : World} {g : Nat} {t : TypeId} {cs : Array Value} (h : Bk w g t cs) : RowC w (some ⟨g, 0, none⟩) cs.toList := by
  intro j u hj
  refine ⟨g, 0, rfl, h.lt, ?_⟩
  rw [Nat.zero_add]
  exact h.at j (by simpa using hj)
theorem Sm.fresh {S : Nat → Prop} {w w1 w2 : World} (h : Sm No w w1) (k : Sm S w1 w2) (hS : ∀ b, S b → w.heap.size ≤ b) : Sm No w w2 :=
  ((h.any _).trans k (fun _ _ e => e)).mono (fun b hb e => by have := hS b e; omega)

def CntRel (w : World) (n : Nat) (i : Value) (wr : World) : Prop := ∃ k : Nat, k ≤ n ∧ i = .int .i64 k ∧ Sm No w wr

def kx1 : Lt := ⟨[47, 97, 47, 42], 1, [[71, 69, 84]]⟩
def kx2 : Lt := ⟨[47, 97, 47, 98], 2, [[80, 79, 83, 84]]⟩
theorem kn_add1 : addC [] kx1 = 0 := by decide +kernel
theorem kn_add2 : addC [kx1] kx2 = 0 := by decide +kernel
theorem kn_s1 : addS [] kx1 = [kx1] := by unfold addS; rw [if_pos kn_add1]; rfl
theorem kn_s2 : addS [kx1] kx2 = [kx1, kx2] := by unfold addS; rw [if_pos kn_add2]; rfl
theorem allow_one (x : Lt) (m : Txt) (h : x.ms = [m]) (h2 : m ≠ GET) : allowP [x] = [m] := by
  have e : withHead (msL [x]) = [m] := by simp [withHead, msL, h]; intro e; exact absurd e.symm h2
  rw [allowP, e]
  simp [sortL, Lib.compact, Lib.compactUpTo, Lib.keeps]
theorem kn_m1 : matchL [kx1, kx2] [71, 69, 84] [47, 97, 47, 98] = (0, [], [[80, 79, 83, 84]], 405) := by
  have e1 : findP [kx1, kx2] [47, 97, 47, 98] = some ((false, [47, 97, 47, 98]), []) := by decide +kernel
  have e2 : sel [kx1, kx2] (false, [47, 97, 47, 98]) = [kx2] := by rfl
  have e3 : pickL [kx2] [71, 69, 84] = none := by decide +kernel
  unfold matchL
  rw [e1]
  simp only [e2, e3, allow_one kx2 [80, 79, 83, 84] rfl (by decide)]
theorem kn_m2 : matchL [kx1, kx2] [72, 69, 65, 68] [47, 97, 47, 99, 47, 100] = (1, [99, 47, 100], [], 200) := by
  have e1 : findP [kx1, kx2] [47, 97, 47, 99, 47, 100] = some ((true, [47, 97, 47]), [99, 47, 100]) := by decide +kernel
  have e2 : sel [kx1, kx2] (true, [47, 97, 47]) = [kx1] := by rfl
  have e3 : pickL [kx1] [72, 69, 65, 68] = some 1 := by decide +kernel
  unfold matchL
  rw [e1]
  simp only [e2, e3]

/-- A Router of the call's own: made behind world w. -/
def Own19 (w w1 : World) (r : Nat) (L : List Lt) : Prop := ∃ O, IsRouter w1 O r L ∧ Sm No w w1 ∧ ∀ b, O b → w.heap.size ≤ b
theorem Own19.no {w w1 w2 : World} {r : Nat} {L : List Lt} (h : Own19 w w1 r L) (hs : Sm No w1 w2) : Own19 w w2 r L := by
  obtain ⟨O, h1, h2, h3⟩ := h
  exact ⟨O, h1.no hs, h2.trans hs (fun _ _ h => h), h3⟩
theorem Own19.sm {w w1 : World} {r : Nat} {L : List Lt} (h : Own19 w w1 r L) : Sm No w w1 := by
  obtain ⟨O, _, h2, _⟩ := h
  exact h2
theorem new_own (w w1 : World) (hs : Sm No w w1) : Calls Tryz.prog 24 #[] w1 fun e w' => ∃ r, e = .returned (.pointer (some ⟨r, 0, none⟩)) ∧ Own19 w w' r [] ∧ w1.heap.size ≤ r ∧ Sm No w1 w' := by
  refine (new_any w1).mono ?_
  rintro e w2 ⟨r, O, rfl, hR, hs1, hO⟩
  have hr : O r := by obtain ⟨_, _, _, _, _, _, _, _, _, h, _⟩ := hR; exact h
  exact ⟨r, rfl, ⟨O, hR, hs.trans hs1 (fun _ _ h => h), fun b hb => Nat.le_trans hs.size (hO b hb)⟩, hO r hr, hs1⟩
/-- What is known of the routes of a Router that was filled. -/
def Fine (L : List Lt) : Prop := L.length ≤ 64 ∧ ∀ x ∈ L, x.ms.length ≤ 4000
theorem Fine.nil : Fine [] := ⟨by simp, by simp⟩
theorem Fine.add {L : List Lt} {x : Lt} (h : Fine L) (hx : x.ms.length ≤ 4000) : Fine (addS L x) := by
  unfold addS
  split
  · rename_i hc
    have := (addC_ok hc).2.2.2.1
    refine ⟨by simp; omega, fun y hy => ?_⟩
    rcases List.mem_append.1 hy with hy | hy
    · exact h.2 y hy
    · rw [List.mem_singleton] at hy; subst hy; exact hx
  · exact h
theorem add_own (w w1 : World) (r : Nat) (L : List Lt) (s : ByteArray) (id : Int) (A : Option Addr) (c : Nat) (ms : List Txt) (h : Own19 w w1 r L) (hg : G0 w) (hL : Fine L)
    (hs : s.size ≤ 800000) (hA : RowC w1 A (ms.map strV)) (hn : A = none → c = 0) (hml : ms.length ≤ 4000) (hms : ∀ t ∈ ms, t.length ≤ 1000000) :
    Calls Tryz.prog 26 #[.pointer (some ⟨r, 0, none⟩), .string s, .int .i64 id, .slice A ms.length c] w1 fun e w2 => e = .returned (.int .i64 (addC L ⟨txt s, id, ms⟩)) ∧ Own19 w w2 r (addS L ⟨txt s, id, ms⟩) := by
  obtain ⟨O, h1, h2, h3⟩ := h
  refine (add19_any w1 O r L s id A c ms h1 (hg.no h2) hL.1 (fun x hx => Nat.le_trans (hL.2 x hx) (by decide)) hs hA hn (by omega) hms).mono ?_
  rintro e w2 ⟨he, O', g1, g2, g3⟩
  refine ⟨he, O', g1, h2.fresh g2 h3, fun b hb => ?_⟩
  rcases g3 b hb with g | g
  · exact h3 b g
  · exact Nat.le_trans h2.size g
theorem match_own (w w1 : World) (r : Nat) (L : List Lt) (m path : ByteArray) {i st : Int} {rest : Txt} {al : List Txt} (hM : matchL L (txt m) (txt path) = (i, rest, al, st)) (h : Own19 w w1 r L) (hL : Fine L) (hp : path.size ≤ 1000000) :
    Calls Tryz.prog 41 #[.pointer (some ⟨r, 0, none⟩), .string m, .string path] w1 fun e w2 => ∃ A c, e = .returned (.tuple #[.int .i64 i, strB rest, .slice A al.length c, .int .i64 st]) ∧ RowC w2 A (al.map strV) ∧ Sm No w1 w2 := by
  obtain ⟨O, h1, h2, h3⟩ := h
  refine (match_any w1 O r L m path h1 hL.1 hL.2 hp).mono ?_
  rintro e w2 ⟨v, he, hv, hs⟩
  rw [hM] at he hv
  obtain ⟨A, c, rfl, hR, _⟩ := own_rowC hv
  exact ⟨A, c, he, hR, hs⟩

end Go.Proofs.YtiglfbimijnpcaaGreatDoor

