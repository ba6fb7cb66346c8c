/- Paths without detours: as words over bytes. No program in sight. -/
/- A path without detours: target's Clean. -/
/- Routes: as words over bytes. No program in sight. -/
/- Routes: the laws on which pattern serves a path, in words. No program in sight. -/
import Derived.Lib.SplitLaws
import Derived.Lib.IndexBytes
import Derived.Test.YtiglfbimijnpcaaGreatDoorQF
import Derived.Test.YtiglfbimijnpcaaGreatDoorQTexts
import Derived.WalkSmall
import Derived.Lib.SlicesCompact
import Derived.Sort.KeysCollected
namespace Go.Proofs.YtiglfbimijnpcaaGreatDoor

abbrev Txt := List UInt8

/-- The pieces of a text between bytes d; what stands ahead is cur. A piece ends with d. -/
def segsB (d : UInt8) : Txt → Txt → List Txt
  | _, [] => []
  | cur, c :: l => if c = d then cur :: segsB d [] l else segsB d (cur ++ [c]) l
def cutsL (d : UInt8) (v : Txt) : List Txt := segsB d [] (v ++ [d])

theorem segsB_append (d : UInt8) (cur x y : Txt) : segsB d cur (x ++ d :: y) = segsB d cur (x ++ [d]) ++ segsB d [] y := by
  induction x generalizing cur with
  | nil => simp [segsB]
  | cons c x ih =>
    simp only [List.cons_append, segsB]
    split
    · rw [ih]; rfl
    · exact ih _
theorem segsB_none (d : UInt8) (cur x : Txt) (h : ∀ c ∈ x, c ≠ d) : segsB d cur (x ++ [d]) = [cur ++ x] := by
  induction x generalizing cur with
  | nil => simp [segsB]
  | cons c x ih =>
    rw [List.cons_append, segsB, if_neg (h c (by simp)), ih _ (fun e he => h e (by simp [he]))]
    simp
theorem segsB_hit (d : UInt8) (cur x y : Txt) (h : ∀ c ∈ x, c ≠ d) : segsB d cur (x ++ d :: y) = (cur ++ x) :: segsB d [] y := by
  rw [segsB_append, segsB_none _ _ _ h]; rfl
theorem segsB_sum (d : UInt8) (cur l : Txt) : ((segsB d cur l).map (·.length + 1)).sum ≤ cur.length + l.length := by
  induction l generalizing cur with
  | nil => simp [segsB]
  | cons c l ih =>
    rw [segsB]
    split
    · have := ih []; simp at this ⊢; omega
    · have := ih (cur ++ [c]); simp at this ⊢; omega

theorem take_noB {d : UInt8} {l : Txt} {i : Nat} (h : ∀ j, j < i → l[j]? ≠ some d) : ∀ c ∈ l.take i, c ≠ d := by
  intro c hc e
  subst e
  obtain ⟨j, hj⟩ := List.getElem?_of_mem hc
  have hlt : j < i := by
    have := (List.getElem?_eq_some_iff.1 hj).1
    rw [List.length_take] at this; omega
  rw [List.getElem?_take, if_pos hlt] at hj
  exact h j hlt hj
theorem splitK_byte (d : UInt8) : ∀ (k : Nat) (s : Txt), Lib.count s [d] = k → Lib.splitK [d] 0 k s = cutsL d s
  | 0, s, h => by
    rw [Lib.splitK]
    have : Lib.index s [d] = -1 := by
      rcases index_cases s d with g | ⟨i, g⟩
      · rw [Lib.index_one]; exact g
      · have := Lib.count_hit (s := s) (sub := [d]) (i := i) (by simp) (by rw [Lib.index_one]; exact g)
        omega
    rw [Lib.index_one] at this
    unfold cutsL
    rw [segsB_none d [] s (fun c hc e => by
      subst e
      obtain ⟨j, hj⟩ := List.getElem?_of_mem hc
      exact Lib.indexByte_none this j hj)]
    rfl
  | k + 1, s, h => by
    rw [Lib.splitK]
    rcases index_cases s d with g | ⟨i, g⟩
    · have := Lib.count_miss (s := s) (sub := [d]) (by rw [Lib.index_one]; exact g)
      omega
    · have hi := index_lt s d i g
      have hix : Lib.index s [d] = i := by rw [Lib.index_one]; exact g
      have hc := Lib.count_hit (s := s) (sub := [d]) (i := i) (by simp) hix
      have e0 : ([d] : Txt).length = 1 := rfl
      rw [e0] at hc
      obtain ⟨g1, g2⟩ := Lib.indexByte_some g
      rw [hix, if_neg (by simp)]
      have e1 : ((i : Int)).toNat = i := by omega
      rw [e1, e0, Nat.add_zero, splitK_byte d k (s.drop (i + 1)) (by omega)]
      have hs : s = s.take i ++ d :: s.drop (i + 1) := by
        have h1 : s[i]? = some d := g1
        rw [List.getElem?_eq_getElem hi] at h1
        injection h1 with h1
        rw [← h1, List.getElem_cons_drop hi, List.take_append_drop]
      conv => rhs; rw [hs]
      unfold cutsL
      rw [List.append_assoc, List.cons_append, segsB_hit _ _ _ _ (take_noB g2)]
      rfl
theorem split_byte (d : UInt8) (s : ByteArray) : (Lib.splitB ⟨#[d]⟩ 0 (Lib.countB s ⟨#[d]⟩) s).map (·.data.toList) = cutsL d s.data.toList := by
  rw [Lib.splitB_data]
  exact splitK_byte d _ _ rfl

/-! A path without detours. -/
def stepC : Option (List Txt) → Txt → Option (List Txt)
  | none, _ => none
  | some l, p => if p = [] ∨ p = [46] then some l else if p = [46, 46] then (if l = [] then none else some l.dropLast) else some (l ++ [p])
def foldC (st : Option (List Txt)) (ps : List Txt) : Option (List Txt) := ps.foldl stepC st
def outC : List Txt → Txt
  | [] => []
  | p :: r => 47 :: (p ++ outC r)
def endC (last out : Txt) : Txt := if last = [] ∨ last = [46] ∨ last = [46, 46] ∨ out = [] then out ++ [47] else out
def cleanL (s : Txt) : Option Txt := if s.head? = some 47 then (foldC (some []) (cutsL 47 s)).map (fun l => endC ((cutsL 47 s).getLastD []) (outC l)) else none

theorem foldC_none (ps : List Txt) : foldC none ps = none := by
  induction ps with
  | nil => rfl
  | cons p ps ih => exact ih
theorem foldC_cons (st : Option (List Txt)) (p : Txt) (ps : List Txt) : foldC st (p :: ps) = foldC (stepC st p) ps := rfl
theorem stepC_skip (l : List Txt) (p : Txt) (h : p = [] ∨ p = [46]) : stepC (some l) p = some l := by simp only [stepC, if_pos h]
theorem stepC_up0 : stepC (some []) [46, 46] = none := by simp [stepC]
theorem stepC_up (l : List Txt) (h : l ≠ []) : stepC (some l) [46, 46] = some l.dropLast := by simp [stepC, h]
theorem stepC_push (l : List Txt) (p : Txt) (h1 : p ≠ []) (h2 : p ≠ [46]) (h3 : p ≠ [46, 46]) : stepC (some l) p = some (l ++ [p]) := by
  simp [stepC, h1, h2, h3]
theorem outC_append (a b : List Txt) : outC (a ++ b) = outC a ++ outC b := by
  induction a with
  | nil => rfl
  | cons p a ih => simp [outC, ih]
theorem outC_take_succ {l : List Txt} {k : Nat} (h : k < l.length) : outC (l.take (k + 1)) = outC (l.take k) ++ 47 :: l[k] := by
  rw [List.take_succ_eq_append_getElem h, outC_append]
  simp [outC]
theorem outC_len (l : List Txt) : (outC l).length = (l.map (·.length + 1)).sum := by
  induction l with
  | nil => rfl
  | cons p l ih => simp [outC, ih]; omega
theorem dropLast_sum (l : List Txt) : ((l.dropLast).map (·.length + 1)).sum ≤ (l.map (·.length + 1)).sum := by
  rcases List.eq_nil_or_concat l with rfl | ⟨r, a, rfl⟩
  · simp
  · simp
theorem cutsL_slash (r : Txt) : cutsL 47 (47 :: r) = [] :: cutsL 47 r := by
  unfold cutsL
  rw [List.cons_append, segsB, if_pos rfl]
theorem cleanL_slash (r : Txt) : cleanL (47 :: r) = (foldC (some []) (cutsL 47 r)).map (fun l => endC ((cutsL 47 r).getLastD []) (outC l)) := by
  unfold cleanL
  rw [if_pos (show (47 :: r).head? = some 47 from rfl), cutsL_slash, foldC_cons, stepC_skip _ _ (Or.inl rfl)]
  simp only [List.getLastD_cons]
theorem cleanL_no {s : Txt} (h : s.head? ≠ some 47) : cleanL s = none := by
  unfold cleanL; rw [if_neg h]
end Go.Proofs.YtiglfbimijnpcaaGreatDoor

namespace Go.Proofs.YtiglfbimijnpcaaGreatDoor
open Go.RowKit Go.Proofs

def txt (s : ByteArray) : Txt := s.data.toList
def strB (l : Txt) : Value := .string ⟨l.toArray⟩
def cleanV : Option Txt → Value
  | some r => .tuple #[strB r, .bool true]
  | none => .tuple #[.string ⟨#[]⟩, .bool false]

theorem split_slash (s : ByteArray) (hs : s.size ≤ 1000000) (w : World) (hg : G0 w) :
    Calls Tryz.prog 95 #[.string s, .string ⟨#[47]⟩] w fun e w' => ∃ ps : List ByteArray, bytesL ps = cutsL 47 (txt s) ∧ e = .returned (.slice (some ⟨w.heap.size, 0, none⟩) ps.length ps.length) ∧
      SRow w' (some ⟨w.heap.size, 0, none⟩) ps ∧ Sm No w w' ∧ w.heap.size < w'.heap.size := by
  obtain ⟨m, hm⟩ := hg
  refine (Tryz.strings_Split s ⟨#[47]⟩ m w (by omega) hm (by decide)).mono fun e w' ⟨he, hw⟩ => ?_
  have hlen := Lib.splitB_all ⟨#[47]⟩ (by decide) 0 _ s rfl
  refine ⟨_, split_byte 47 s, ?_, ?_, ?_, by rw [hw]; simp⟩
  · rw [hlen]; exact he
  · intro k hk
    subst hw
    have hb := Bk.new w 9 ((Lib.splitB ⟨#[47]⟩ 0 (Lib.countB s ⟨#[47]⟩) s).map Value.string).toArray
    exact ⟨w.heap.size, 0, rfl, hb.lt, by rw [Nat.zero_add]; exact hb.at k (by simp [hk])⟩
  · rw [hw]; exact (Sm.refl No w).alloc _

theorem bytes_cons {ps : List ByteArray} {k : Nat} (h : k < ps.length) : bytesL (ps.drop k) = txt ps[k] :: bytesL (ps.drop (k + 1)) := by
  unfold bytesL
  rw [List.drop_eq_getElem_cons h]
  rfl
theorem bytes_end {ps : List ByteArray} {k : Nat} (h : ¬ k < ps.length) : bytesL (ps.drop k) = [] := by
  unfold bytesL
  rw [List.drop_eq_nil_of_le (by omega)]
  rfl
def wt (l : List Txt) : Nat := (l.map (·.length + 1)).sum
theorem wt_cons (p : Txt) (l : List Txt) : wt (p :: l) = p.length + 1 + wt l := by simp [wt]
theorem wt_push (l : List Txt) (p : Txt) : wt (l ++ [p]) = wt l + (p.length + 1) := by simp [wt]
theorem wt_drop (l : List Txt) : wt l.dropLast ≤ wt l := dropLast_sum l
theorem wt_many (l : List Txt) : l.length ≤ wt l := by
  induction l with
  | nil => simp
  | cons p l ih => rw [wt_cons]; simp; omega
theorem wt_cuts (s : Txt) : wt (cutsL 47 s) ≤ s.length + 1 := by
  have := segsB_sum 47 [] (s ++ [47])
  simpa [wt, cutsL] using this

/-- What is true behind k pieces of ps: l stands, last was the last one. -/
def CleanRel (w : World) (gp n : Nat) (T : Option (List Txt) × Txt) (ps : List ByteArray) (v lv i : Value) (wr : World) : Prop :=
  ∃ (k : Nat) (l : List Txt) (last : ByteArray), k ≤ ps.length ∧ i = .int .i64 k ∧ lv = .string last ∧ T = (foldC (some l) (bytesL (ps.drop k)), (bytesL (ps.drop k)).getLastD (txt last)) ∧ wt l + wt (bytesL (ps.drop k)) ≤ n ∧
    OwnT wr w.heap.size v l ∧ SRow wr (some ⟨gp, 0, none⟩) ps ∧ Sm No w wr ∧ v.ownBlock ≠ some gp ∧ gp < wr.heap.size ∧ last.size ≤ n

theorem OwnT.pop {w : World} {B : Nat} {v : Value} {l : List Txt} (h : OwnT w B v l) (hl : l ≠ []) : ∃ g cap, v = .slice (some ⟨g, 0, none⟩) l.length cap ∧ l.length ≤ cap ∧ OwnT w B (.slice (some ⟨g, 0, none⟩) (l.length - 1) cap) l.dropLast := by
  rcases own_row_form h with ⟨_, h0, _⟩ | ⟨g, cap, rfl, _, _, _, hc, _⟩
  · exact absurd (List.eq_nil_of_length_eq_zero h0) hl
  · refine ⟨g, cap, rfl, hc, ?_⟩
    obtain ⟨a, x, rfl⟩ : ∃ a x, l = a ++ [x] := ⟨l.dropLast, l.getLast hl, (List.dropLast_concat_getLast hl).symm⟩
    rw [List.dropLast_concat]
    unfold OwnT at h ⊢
    rw [List.map_append, List.length_append] at h
    simp only [List.length_singleton, List.map_cons, List.map_nil, List.length_append] at h ⊢
    rw [Nat.add_sub_cancel]
    exact ownsRow_pop (by simp) h

theorem bytes_eq_iff (p : ByteArray) (l : Txt) : p.toList = l ↔ txt p = l := by rw [Go.ByteArray.toList_eq]; rfl
theorem isEmpty_txt (p : ByteArray) : p.toList.isEmpty = decide (txt p = []) := by rw [Go.ByteArray.toList_eq]; unfold txt; cases p.data.toList <;> simp
theorem beq_txt (p : ByteArray) (l : Txt) : (p.toList == l) = decide (txt p = l) := by rw [Go.ByteArray.toList_eq]; unfold txt; by_cases h : p.data.toList = l <;> simp [h]
theorem txt_append (a b : ByteArray) : txt (a ++ b) = txt a ++ txt b := by simp [txt]
theorem txt_len (a : ByteArray) : (txt a).length = a.size := by simp [txt]
theorem head_txt (s : ByteArray) (h : 0 < s.size) : (txt s).head? = some s[0] := by
  have e0 : (txt s)[0]? = some s[0] := by
    unfold txt
    rw [List.getElem?_eq_getElem (by simpa using h)]
    simp [ByteArray.getElem_eq_getElem_data]
  rw [← e0, List.head?_eq_getElem?]
theorem strB_txt (a : ByteArray) : strB (txt a) = .string a := by unfold strB txt; simp

theorem own_rowC_at {w : World} {B size n c : Nat} {t : TypeId} {A : Option Addr} {xs : List Value} (h : w.ownsRow B t size (.slice A n c) n xs) : RowC w A xs := by
  obtain ⟨A', c', e, h2, _⟩ := own_rowC h
  injection e with e1 _ _
  rw [e1]
  exact h2
theorem endV (last out : ByteArray) (l : List Txt) (hout : txt out = outC l) (b : Bool) (hb : (last.toList.isEmpty || (last.toList == [46]) || (last.toList == [46, 46]) || out.toList.isEmpty) = b) :
    Ending.returned (.tuple #[.string (if b = true then out ++ ⟨#[47]⟩ else out), .bool true]) = .returned (cleanV (some (endC (txt last) (outC l)))) := by
  rw [isEmpty_txt, isEmpty_txt, beq_txt, beq_txt] at hb
  unfold endC
  rw [← hout]
  cases b
  · rw [if_neg (by simp), if_neg (by simpa [not_or, and_assoc] using hb)]
    show _ = Ending.returned (.tuple #[strB (txt out), .bool true])
    rw [strB_txt]
  · have hb' : txt last = [] ∨ txt last = [46] ∨ txt last = [46, 46] ∨ txt out = [] := by simpa [or_assoc] using hb
    have e : txt (out ++ ⟨#[47]⟩) = txt out ++ [47] := txt_append _ _
    rw [if_pos rfl, if_pos hb', ← e]
    show _ = Ending.returned (.tuple #[strB (txt (out ++ ⟨#[47]⟩)), .bool true])
    rw [strB_txt]
def OutRelT (w : World) (B : Nat) (v : Value) (l : List Txt) (ov i : Value) (wr : World) : Prop :=
  ∃ (j : Nat) (out : ByteArray), j ≤ l.length ∧ i = .int .i64 j ∧ ov = .string out ∧ txt out = outC (l.take j) ∧ OwnT wr B v l ∧ Sm No w wr

theorem outC_le (l : List Txt) (j : Nat) : (outC (l.take j)).length ≤ wt l := by
  rw [outC_len]
  show wt (l.take j) ≤ wt l
  have : wt l = wt (l.take j) + wt (l.drop j) := by
    conv => lhs; rw [← List.take_append_drop j l]
    simp only [wt, List.map_append, List.sum_append]
  omega
theorem cleanL_none {s : Txt} (h : foldC (some []) (cutsL 47 s) = none) : cleanL s = none := by
  unfold cleanL; split
  · rw [h]; rfl
  · rfl
theorem cleanL_some {s : Txt} {l : List Txt} {last : Txt} (h0 : s.head? = some 47) (h : (foldC (some []) (cutsL 47 s), (cutsL 47 s).getLastD []) = (some l, last)) : cleanL s = some (endC last (outC l)) := by
  unfold cleanL
  rw [if_pos h0, (Prod.mk.inj h).1, (Prod.mk.inj h).2]
  rfl

set_option maxRecDepth 100000 in
set_option maxHeartbeats 8000000 in
theorem clean_any (s : ByteArray) (hs : s.size ≤ 900000) (w : World) (hg : G0 w) :
    Calls Tryz.prog 55 #[.string s] w fun e w' => e = .returned (cleanV (cleanL (txt s))) ∧ Sm No w w' := by
  by_cases h0 : s.size = 0
  · have hn : txt s = [] := List.eq_nil_of_length_eq_zero (by rw [txt_len]; exact h0)
    have hR : cleanL (txt s) = none := cleanL_no (by rw [hn]; simp)
    rw [hR]
    have h1 : s.toList.isEmpty = true := by rw [isEmpty_txt, hn]; rfl
    clear hn h0 hR
    go_enter Tryz.func55, Tryz.ntmps55
    go_wp2_with fail
    go_ret2
    exact ⟨rfl, Sm.refl _ _⟩
  · have h2 : 0 < s.size := by omega
    have h1 : s.toList.isEmpty = false := by rw [isEmpty_txt, decide_eq_false_iff_not]; intro e; have := txt_len s; rw [e] at this; simp at this; omega
    have hh := head_txt s h2
    by_cases hq0 : s[0] = 47
    · have hq : ((s[0].toNat : Int) != 47) = false := by simp [hq0]
      rw [hq0] at hh
      obtain ⟨R, hR⟩ : ∃ R, cleanL (txt s) = R := ⟨_, rfl⟩
      rw [hR]
      have HG := Lib.hid (And.intro hh (And.intro hR hg))
      clear hh hR hg h0 hq0
      go_enter Tryz.func55, Tryz.ntmps55
      go_wp2_with fail
      refine (split_slash s (by omega) _ HG.out.2.2).mono ?_
      rintro e w1 ⟨ps, hps, rfl, hSR, hs1, hgp⟩
      have hT0 : (foldC (some []) (cutsL 47 (txt s)), (cutsL 47 (txt s)).getLastD []) = (foldC (some []) (bytesL (ps.drop 0)), (bytesL (ps.drop 0)).getLastD (txt ⟨#[]⟩)) := by rw [List.drop_zero, hps]; rfl
      have hW : wt (bytesL (ps.drop 0)) ≤ s.size + 1 := by rw [List.drop_zero, hps, ← txt_len]; exact wt_cuts _
      have hpl : ps.length ≤ s.size + 1 := by
        have := wt_many (bytesL (ps.drop 0))
        rw [List.drop_zero] at this hW
        have e : (bytesL ps).length = ps.length := by simp [bytesL]
        omega
      have HP := Lib.hid (And.intro hT0 (And.intro hW (And.intro hSR (And.intro hs1 hgp))))
      clear hps hT0 hW hSR hs1 hgp
      go_wp2_with fail
      go_loopw [4, 5, 21] (fun v lv i wr => CleanRel w w.heap.size (s.size + 1) (foldC (some []) (cutsL 47 (txt s)), (cutsL 47 (txt s)).getLastD []) ps v lv i wr) (fun _ _ i _ => ps.length - (intOf i).toNat)
      case atStart => exact ⟨0, [], ⟨#[]⟩, Nat.zero_le _, rfl, rfl, HP.out.1, by simpa [wt] using HP.out.2.1, World.ownsRow_nil _ _ _ 1, HP.out.2.2.1, HP.out.2.2.2.1, by simp [Value.ownBlock], HP.out.2.2.2.2, Nat.zero_le _⟩
      case round =>
        obtain ⟨k, l, last, hk, rfl, rfl, hT, hW, hO, hSR, hsm, hgp, hgl, hll⟩ := hrel
        obtain ⟨A0, c0, rfl, hrow, _, hnc⟩ := own_rowC hO
        have HK := Lib.hid (And.intro hT (And.intro hW (And.intro hO (And.intro hSR (And.intro hsm (And.intro hgp (And.intro hgl hrow)))))))
        clear hT hW hO hSR hsm hgp hgl hrow
        by_cases hlt : k < ps.length
        · obtain ⟨b2, o2, hA2, hb2, r2⟩ := HK.out.2.2.2.1 k hlt
          injection hA2 with hA2
          injection hA2 with hA3 hA4
          subst hA3 hA4
          have hat := bytes_cons hlt
          obtain ⟨p, hp⟩ : ∃ s, ps[k] = s := ⟨_, rfl⟩
          rw [hp] at r2 hat
          rw [Nat.zero_add] at r2
          have k3 : (0 : Int) ≤ (k : Int) := by omega
          have k4 : (k : Int) < (ps.length : Int) := by omega
          have hT : (foldC (some []) (cutsL 47 (txt s)), (cutsL 47 (txt s)).getLastD []) = (foldC (stepC (some l) (txt p)) (bytesL (ps.drop (k + 1))), (bytesL (ps.drop (k + 1))).getLastD (txt p)) := by rw [HK.out.1, hat, foldC_cons, List.getLastD_cons]
          have hW : wt l + (p.size + 1) + wt (bytesL (ps.drop (k + 1))) ≤ s.size + 1 := by have := HK.out.2.1; rw [hat, wt_cons, txt_len] at this; omega
          have HX := Lib.hid (And.intro hT hW)
          have hpz : p.size ≤ s.size + 1 := by omega
          have hlm : l.length ≤ s.size + 1 := by have := wt_many l; omega
          clear hp hat hT hW
          have e1 : p.toList.isEmpty = decide (txt p = []) := isEmpty_txt p
          have e2 : (p.toList == [46]) = decide (txt p = [46]) := beq_txt p _
          have e3 : (p.toList == [46, 46]) = decide (txt p = [46, 46]) := beq_txt p _
          by_cases c1 : txt p = []
          · have hT := HX.out.1
            rw [stepC_skip _ _ (Or.inl c1)] at hT
            have HT := Lib.hid hT
            rw [c1] at e1
            have e1' : p.toList.isEmpty = true := e1
            clear hT e1 e2 e3 c1
            go_wp2_with fail
            exact ⟨⟨k + 1, l, p, by omega, by go_num, rfl, HT.out, by have := HX.out.2; omega, HK.out.2.2.1, HK.out.2.2.2.1, HK.out.2.2.2.2.1, HK.out.2.2.2.2.2.1, HK.out.2.2.2.2.2.2.1, hpz⟩, by simp [intOf]; omega⟩
          · have e1' : p.toList.isEmpty = false := by rw [e1, decide_eq_false_iff_not]; exact c1
            by_cases c2 : txt p = [46]
            · have hT := HX.out.1
              rw [stepC_skip _ _ (Or.inr c2)] at hT
              have HT := Lib.hid hT
              have e2' : (p.toList == [46]) = true := by rw [e2, c2]; rfl
              clear hT e1 e2 e3 c1 c2
              go_wp2_with fail
              exact ⟨⟨k + 1, l, p, by omega, by go_num, rfl, HT.out, by have := HX.out.2; omega, HK.out.2.2.1, HK.out.2.2.2.1, HK.out.2.2.2.2.1, HK.out.2.2.2.2.2.1, HK.out.2.2.2.2.2.2.1, hpz⟩, by simp [intOf]; omega⟩
            · have e2' : (p.toList == [46]) = false := by rw [e2, decide_eq_false_iff_not]; exact c2
              by_cases c3 : txt p = [46, 46]
              · have e3' : (p.toList == [46, 46]) = true := by rw [e3, c3]; rfl
                by_cases c4 : l = []
                · subst c4
                  have hT := HX.out.1
                  rw [c3, stepC_up0, foldC_none] at hT
                  have hR : R = none := by rw [← HG.out.2.1]; exact cleanL_none (Prod.mk.inj hT).1
                  subst hR
                  clear hT e1 e2 e3 c1 c2 c3
                  go_wp2_with fail
                  go_ret2
                  exact ⟨rfl, HK.out.2.2.2.2.1⟩
                · have hT := HX.out.1
                  rw [show stepC (some l) (txt p) = some l.dropLast by rw [c3]; exact stepC_up _ c4] at hT
                  obtain ⟨g, cap, hv, hcap, hpop⟩ := HK.out.2.2.1.pop c4
                  injection hv with hv1 hv2 hv3
                  subst hv1 hv3
                  have hl1 : 0 < l.length := List.length_pos_iff.2 c4
                  have HT := Lib.hid (And.intro hT hpop)
                  have e4 : ((l.length : Int) == 0) = false := by simp; exact c4
                  have e5 : (((l.length - 1 : Nat) : Int)) = (l.length : Int) - 1 := by omega
                  clear hT e1 e2 e3 c1 c2 c3 hpop c4
                  go_wp2_with fail
                  exact ⟨⟨k + 1, l.dropLast, p, by omega, by go_num, rfl, HT.out.1, by have := HX.out.2; have := wt_drop l; omega, (by simpa using HT.out.2), HK.out.2.2.2.1, HK.out.2.2.2.2.1, HK.out.2.2.2.2.2.1, HK.out.2.2.2.2.2.2.1, hpz⟩, by simp [intOf]; omega⟩
              · have e3' : (p.toList == [46, 46]) = false := by rw [e3, decide_eq_false_iff_not]; exact c3
                have hT := HX.out.1
                rw [stepC_push _ _ c1 c2 c3] at hT
                have HT := Lib.hid hT
                clear hT e1 e2 e3 c1 c2 c3
                go_wp2_with (refine wpList_push rfl _ _ 82 9 rfl Tryz.underlying82 _ 1 16 infoStr rfl (by decide) (by decide) w.heap.size _ _ _ rfl (World.ownsRow.alloc HK.out.2.2.1 _) wr.heap.size #[.string p] rfl (Bk.new wr _ _) rfl (by simp [Value.oneCell']) (by omega) (by have := HK.out.2.2.2.2.1.size; simp; omega) ?_; intro v' w5 hown5 hs5 hv5)
                have hO5 : OwnT w5 w.heap.size v' (l ++ [txt p]) := by
                  refine OwnT.push ?_
                  rw [show strV (txt p) = .string p from strB_txt p]
                  exact hown5
                have hS5 : Sm No w w5 := (HK.out.2.2.2.2.1.alloc (.cells #[.string p] 9)).trans hs5 (fun b hb e => by
                  have := (World.ownsRow.lt HK.out.2.2.1 b e).1
                  omega)
                have hR5 : SRow w5 (some ⟨w.heap.size, 0, none⟩) ps := (HK.out.2.2.2.1.no ((Sm.refl No wr).alloc (.cells #[.string p] 9))).sm hs5 (fun a ha e => by
                  injection ha with ha
                  rw [← ha] at e
                  exact HK.out.2.2.2.2.2.1 e)
                have hN5 : v'.ownBlock ≠ some w.heap.size := fun e => by
                  rcases hv5 with g | g
                  · exact HK.out.2.2.2.2.2.1 (g ▸ e)
                  · rw [g] at e
                    injection e with e
                    have := HK.out.2.2.2.2.2.2.1
                    simp at e; omega
                have hG5 : w.heap.size < w5.heap.size := by have := HK.out.2.2.2.2.2.2.1; have := hs5.size; simp at this; omega
                have H5 := Lib.hid (And.intro hO5 (And.intro hR5 (And.intro hS5 (And.intro hN5 hG5))))
                clear hO5 hS5 hown5 hs5 hv5 hR5 hN5 hG5
                go_wp2_with fail
                exact ⟨⟨k + 1, l ++ [txt p], p, by omega, by go_num, rfl, HT.out, by have := HX.out.2; rw [wt_push, txt_len]; omega, H5.out.1, H5.out.2.1, H5.out.2.2.1, H5.out.2.2.2.1, H5.out.2.2.2.2, hpz⟩, by simp [intOf]; omega⟩
        · have hT := HK.out.1
          rw [bytes_end hlt] at hT
          have hR : R = some (endC (txt last) (outC l)) := by rw [← HG.out.2.1]; exact cleanL_some HG.out.1 hT
          have hwl : wt l ≤ s.size + 1 := by have := HK.out.2.1; omega
          have hlm : l.length ≤ s.size + 1 := by have := wt_many l; omega
          have HE := Lib.hid hR
          clear hR hT
          go_wp2_with fail
          go_loopw [8, 47] (fun ov i wr' => OutRelT w w.heap.size (.slice A0 l.length c0) l ov i wr') (fun _ i _ => l.length - (intOf i).toNat)
          case atStart => exact ⟨0, ⟨#[]⟩, Nat.zero_le _, rfl, rfl, rfl, HK.out.2.2.1, HK.out.2.2.2.2.1⟩
          case round =>
            obtain ⟨j, out, hj, rfl, rfl, hout, hO, hsm⟩ := hrel
            have hoz : out.size ≤ s.size + 1 := by have := outC_le l j; rw [← hout, txt_len] at this; omega
            have HO := Lib.hid (And.intro hout (And.intro hO hsm))
            clear hout hO hsm
            by_cases hlt2 : j < l.length
            · have hget : (l.map strV)[j]? = some (strV l[j]) := by simp [hlt2]
              obtain ⟨bb, off, hAe, hbb, r0⟩ := (own_rowC_at HO.out.2.1) _ _ hget
              subst hAe
              obtain ⟨p, hp⟩ : ∃ p : ByteArray, p = ⟨l[j].toArray⟩ := ⟨_, rfl⟩
              have htp : txt p = l[j] := by rw [hp]; rfl
              rw [show strV l[j] = .string p by rw [hp]; rfl] at r0
              have hnew : txt (out ++ (⟨#[47]⟩ ++ p)) = outC (l.take (j + 1)) := by
                rw [outC_take_succ hlt2, txt_append, txt_append, HO.out.1, htp]; rfl
              have hnz : (out ++ (⟨#[47]⟩ ++ p)).size ≤ s.size + 1 := by have := outC_le l (j + 1); rw [← hnew, txt_len] at this; omega
              have hnz0 := hnz
              rw [ByteArray.size_append, ByteArray.size_append] at hnz0
              have hone : (⟨#[47]⟩ : ByteArray).size = 1 := rfl
              have hpz : p.size ≤ s.size := by omega
              have HN := Lib.hid hnew
              have k3 : (0 : Int) ≤ (j : Int) := by omega
              have k4 : (j : Int) < (l.length : Int) := by omega
              clear hnew hget hp htp hnz hnz0 hone
              go_wp2_with fail
              exact ⟨⟨j + 1, _, by omega, by go_num, rfl, HN.out, HO.out.2.1, HO.out.2.2⟩, by simp [intOf]; omega⟩
            · have hout : txt out = outC l := by rw [HO.out.1, List.take_of_length_le (by omega)]
              have HF := Lib.hid hout
              clear hout
              go_wp2_with fail
              all_goals go_ret2
              all_goals refine ⟨?_, HO.out.2.2⟩
              all_goals rw [HE.out]
              all_goals first
                | (refine endV last out l HF.out true ?_; first | (simp [*]; done) | (simp only [Bool.or_eq_true]; assumption))
                | (refine endV last out l HF.out false ?_; simp [*]; done)
    · have hq : ((s[0].toNat : Int) != 47) = true := by
        have := u8_ne (c := s[0]) (n := 47) (by decide) hq0
        simp at this ⊢; exact this
      have hR : cleanL (txt s) = none := cleanL_no (by rw [hh]; intro e; injection e with e; exact hq0 e)
      rw [hR]
      clear hh hR h0 hq0
      go_enter Tryz.func55, Tryz.ntmps55
      go_wp2_with fail
      go_ret2
      exact ⟨rfl, Sm.refl _ _⟩
end Go.Proofs.YtiglfbimijnpcaaGreatDoor

namespace Go.Proofs.YtiglfbimijnpcaaGreatDoor

/-- A pattern that was laid, what it is for, its methods. -/
structure Lt where
  pat : Txt
  id : Int
  ms : List Txt

def wideL (s : Txt) : Bool := decide (2 ≤ s.length) && (s.drop (s.length - 2) == [47, 42])
def keyL (s : Txt) : Bool × Txt := if wideL s then (true, s.dropLast) else (false, s)
def patOf (k : Bool × Txt) : Txt := if k.1 then k.2 ++ [42] else k.2
def plainL (s : Txt) : Bool := decide (s.length ≤ 200) && (cleanL s == some s) && !wideL s
def patL (s : Txt) : Bool := if wideL s && decide (s.length ≤ 201) then plainL s.dropLast else plainL s
def okP (s : Txt) : Bool := cleanL (keyL s).2 == some (keyL s).2 && decide ((keyL s).2.length ≤ 200)

theorem wide_iff (s : Txt) : wideL s = true ↔ ∃ q, s = q ++ [47, 42] := by
  unfold wideL
  simp only [Bool.and_eq_true, decide_eq_true_eq, beq_iff_eq]
  constructor
  · rintro ⟨h, e⟩
    exact ⟨s.take (s.length - 2), by rw [← e, List.take_append_drop]⟩
  · rintro ⟨q, rfl⟩
    simp
theorem wide_drop {q : Txt} : (q ++ [47, 42] : Txt).dropLast = q ++ [47] := by
  rw [show (q ++ [47, 42] : Txt) = (q ++ [47]) ++ [42] by simp, List.dropLast_concat]
theorem wide_slash (q : Txt) : wideL (q ++ [47]) = false := by
  rw [Bool.eq_false_iff]
  intro h
  obtain ⟨r, hr⟩ := (wide_iff _).1 h
  rw [show (r ++ [47, 42] : Txt) = (r ++ [47]) ++ [42] by simp] at hr
  have := (List.append_inj' hr rfl).2
  simp at this
theorem key_wide {s : Txt} (h : wideL s = true) : keyL s = (true, s.dropLast) := by simp [keyL, h]
theorem key_plain {s : Txt} (h : wideL s = false) : keyL s = (false, s) := by simp [keyL, h]
theorem patOf_key (s : Txt) : patOf (keyL s) = s := by
  cases h : wideL s
  · rw [key_plain h]; rfl
  · obtain ⟨q, rfl⟩ := (wide_iff s).1 h
    rw [key_wide h, wide_drop]
    simp [patOf]
theorem keyL_inj {a b : Txt} (h : keyL a = keyL b) : a = b := by rw [← patOf_key a, h, patOf_key]
theorem patL_ok (s : Txt) : patL s = okP s := by
  unfold patL okP plainL
  cases h : wideL s
  · rw [key_plain h]
    simp [Bool.and_comm]
  · rw [key_wide h]
    obtain ⟨q, rfl⟩ := (wide_iff s).1 h
    rw [wide_drop, wide_slash]
    simp only [List.length_append, List.length_cons, List.length_nil]
    by_cases h1 : q.length + 2 ≤ 201
    · have h2 : q.length + 1 ≤ 200 := by omega
      simp [h1, h2]
    · have h2 : ¬ q.length + 1 ≤ 200 := by omega
      have h3 : ¬ q.length + 2 ≤ 200 := by omega
      simp [h1, h2, h3]

/-- Do two lists of methods meet? None is all. -/
def clash (ms xs : List Txt) : Bool := ms.isEmpty || xs.isEmpty || ms.any (fun m => xs.contains m)
def sel (L : List Lt) (k : Bool × Txt) : List Lt := L.filter (fun x => keyL x.pat == k)
def addC (L : List Lt) (x : Lt) : Int :=
  if (patL x.pat && decide (0 ≤ x.id) && x.ms.all tokL) = true then (if 64 ≤ L.length then 3 else if (sel L (keyL x.pat)).any (fun y => clash x.ms y.ms) = true then 11 else 0) else 1
def addS (L : List Lt) (x : Lt) : List Lt := if addC L x = 0 then L ++ [x] else L

theorem key_beq (a b : Txt) : (keyL a == keyL b) = (a == b) := by
  rw [Bool.eq_iff_iff, beq_iff_eq, beq_iff_eq]
  exact ⟨keyL_inj, fun h => h ▸ rfl⟩
theorem sel_pat (L : List Lt) (p : Txt) : sel L (keyL p) = L.filter (fun x => x.pat == p) := by
  unfold sel
  congr 1
  funext x
  exact key_beq _ _
theorem sel_add (L : List Lt) (x : Lt) (k : Bool × Txt) : sel (L ++ [x]) k = if keyL x.pat = k then sel L k ++ [x] else sel L k := by
  unfold sel
  rw [List.filter_append]
  by_cases h : keyL x.pat = k <;> simp [h]
theorem addC_ok {L : List Lt} {x : Lt} (h : addC L x = 0) : patL x.pat = true ∧ 0 ≤ x.id ∧ x.ms.all tokL = true ∧ L.length < 64 ∧ (sel L (keyL x.pat)).any (fun y => clash x.ms y.ms) = false := by
  unfold addC at h
  split at h
  · rename_i g
    simp only [Bool.and_eq_true, decide_eq_true_eq] at g
    split at h
    · cases h
    · split at h
      · cases h
      · rename_i g2 g3
        exact ⟨g.1.1, g.1.2, g.2, by omega, by simpa using g3⟩
  · cases h

/-! What a path is for. -/
def hasW (L : List Lt) (q : Txt) : Bool := !(sel L (true, q)).isEmpty
def downP (L : List Lt) (path : Txt) : Nat → Option Nat
  | 0 => none
  | i + 1 => if path[i]? = some 47 ∧ hasW L (path.take (i + 1)) = true then some i else downP L path i
def findP (L : List Lt) (path : Txt) : Option ((Bool × Txt) × Txt) :=
  if (sel L (false, path)).isEmpty then (downP L path path.length).map (fun i => ((true, path.take (i + 1)), path.drop (i + 1))) else some ((false, path), [])

/-- Does a wide pattern begin a path? -/
def begins (p path : Txt) : Bool := wideL p && (path.take (p.length - 1) == p.dropLast)
/-! Methods. -/
def ofL : List Lt → Txt → Option Int
  | [], _ => none
  | x :: r, m => if (x.ms.isEmpty || x.ms.contains m) = true then some x.id else ofL r m
def msL (L : List Lt) : List Txt := L.flatMap (·.ms)
def GET : Txt := [71, 69, 84]
def HEAD : Txt := [72, 69, 65, 68]
def withHead (l : List Txt) : List Txt := if l.contains GET then l ++ [HEAD] else l
def sortL (l : List Txt) : List Txt := l.mergeSort leB
def allowP (L : List Lt) : List Txt := Lib.compact (sortL (withHead (msL L)))
abbrev Asc (l : List Txt) : Prop := l.Pairwise (· < ·)
theorem compact_upto (d : Array Txt) (hd : d.toList.Pairwise (· ≤ ·)) : ∀ m, m ≤ d.size → Asc (Lib.compactUpTo d m) ∧ (∀ z, z ∈ Lib.compactUpTo d m ↔ z ∈ d.toList.take m) := by
  intro m
  induction m with
  | zero => intro _; simp [Lib.compactUpTo, Asc]
  | succ m ih =>
    intro hm
    obtain ⟨h1, h2⟩ := ih (by omega)
    have hlt0 : m < d.size := by omega
    have hlt : m < d.toList.length := by simpa using hlt0
    have hget : d[m]! = d.toList[m] := by simp [getElem!_pos d m (by omega)]
    have htk : d.toList.take (m + 1) = d.toList.take m ++ [d.toList[m]] := List.take_succ_eq_append_getElem hlt
    rw [Lib.compactUpTo_succ]
    by_cases hk : Lib.keeps d m = true
    · rw [if_pos hk, htk, hget]
      refine ⟨List.pairwise_append.2 ⟨h1, by simp, fun a ha b hb => ?_⟩, fun z => by rw [List.mem_append, List.mem_append, h2]⟩
      rw [List.mem_singleton] at hb
      subst hb
      have ha' := (h2 a).1 ha
      obtain ⟨j, hj⟩ := List.getElem?_of_mem ha'
      have hjl : j < m := by
        have := (List.getElem?_eq_some_iff.1 hj).1
        rw [List.length_take] at this; omega
      rw [List.getElem?_take, if_pos hjl] at hj
      have hjd : j < d.toList.length := by omega
      rw [List.getElem?_eq_getElem hjd] at hj
      injection hj with hj
      have hne : d.toList[m] ≠ d.toList[m - 1] := by
        unfold Lib.keeps at hk
        simp only [decide_eq_true_eq] at hk
        rcases hk with hk | hk
        · omega
        · rw [hget, show d[m - 1]! = d.toList[m - 1] by simp [getElem!_pos d (m - 1) (by omega)]] at hk
          exact hk
      have hp : d.toList[m - 1] ≤ d.toList[m] := by
        rw [List.pairwise_iff_getElem] at hd
        exact hd (m - 1) m (by omega) hlt (by omega)
      have hlt2 : d.toList[m - 1] < d.toList[m] := by
        rcases List.le_iff_lt_or_eq.1 hp with g | g
        · exact g
        · exact absurd g.symm hne
      by_cases e : j = m - 1
      · subst e
        rw [← hj]; exact hlt2
      · have hle : d.toList[j] ≤ d.toList[m - 1] := by
          rw [List.pairwise_iff_getElem] at hd
          exact hd j (m - 1) hjd (by omega) (by omega)
        rw [← hj]
        rcases List.le_iff_lt_or_eq.1 hle with g | g
        · exact List.lt_trans g hlt2
        · rw [g]; exact hlt2
    · rw [if_neg hk, List.append_nil]
      refine ⟨h1, fun z => ?_⟩
      rw [h2, htk, List.mem_append, List.mem_singleton]
      unfold Lib.keeps at hk
      simp only [decide_eq_true_eq, not_or, Classical.not_not] at hk
      obtain ⟨k1, k2⟩ := hk
      rw [hget, show d[m - 1]! = d.toList[m - 1] by simp [getElem!_pos d (m - 1) (by omega)]] at k2
      constructor
      · intro h; exact Or.inl h
      · rintro (h | h)
        · exact h
        · rw [h, k2]
          refine List.mem_iff_getElem?.2 ⟨m - 1, ?_⟩
          rw [List.getElem?_take, if_pos (by omega), List.getElem?_eq_getElem]
theorem compact_asc {l : List Txt} (h : l.Pairwise (· ≤ ·)) : Asc (Lib.compact l) ∧ ∀ z, z ∈ Lib.compact l ↔ z ∈ l := by
  have := compact_upto l.toArray (by simpa using h) l.length (by simp)
  simpa [Lib.compact] using this
theorem sortL_le (l : List Txt) : (sortL l).Pairwise (· ≤ ·) := by
  have tr : ∀ a b c : List UInt8, leB a b = true → leB b c = true → leB a c = true := fun a b c h1 h2 => by simp only [leB, decide_eq_true_eq] at *; exact List.le_trans h1 h2
  have tt : ∀ a b : List UInt8, (leB a b || leB b a) = true := fun a b => by simp only [leB, Bool.or_eq_true, decide_eq_true_eq]; exact List.le_total a b
  exact (List.pairwise_mergeSort tr tt l).imp (fun h => by simpa [leB] using h)
theorem sortL_mem (l : List Txt) (z : Txt) : z ∈ sortL l ↔ z ∈ l := (List.mergeSort_perm l leB).mem_iff

def pickL (L : List Lt) (m : Txt) : Option Int := match ofL L m with
  | some i => some i
  | none => if m = HEAD then ofL L GET else none
def matchL (L : List Lt) (m path : Txt) : Int × Txt × List Txt × Int :=
  match findP L path with
  | none => (0, [], [], 404)
  | some (k, rest) => match pickL (sel L k) m with
    | some i => (i, rest, [], 200)
    | none => (0, [], allowP (sel L k), 405)
end Go.Proofs.YtiglfbimijnpcaaGreatDoor

namespace Go.Proofs.YtiglfbimijnpcaaGreatDoor

/-! One pattern alone. -/
/-! Patterns in any order. -/
theorem clash_comm (a b : List Txt) : clash a b = clash b a := by
  unfold clash
  rw [Bool.eq_iff_iff]
  simp only [Bool.or_eq_true, List.isEmpty_iff, List.any_eq_true, List.contains_iff_mem]
  constructor
  · rintro ((h | h) | ⟨x, h1, h2⟩)
    · exact Or.inl (Or.inr h)
    · exact Or.inl (Or.inl h)
    · exact Or.inr ⟨x, h2, h1⟩
  · rintro ((h | h) | ⟨x, h1, h2⟩)
    · exact Or.inl (Or.inr h)
    · exact Or.inl (Or.inl h)
    · exact Or.inr ⟨x, h2, h1⟩
/-- Routes that were all taken. -/
def Taken (L : List Lt) : Prop := L.length ≤ 64 ∧ (∀ x ∈ L, patL x.pat = true ∧ 0 ≤ x.id ∧ x.ms.all tokL = true) ∧ L.Pairwise (fun x y => x.pat = y.pat → clash x.ms y.ms = false)
theorem Taken.nil : Taken [] := ⟨by simp, by simp, List.Pairwise.nil⟩
theorem any_false {α : Type} {l : List α} {p : α → Bool} (h : l.any p = false) : ∀ x ∈ l, p x = false := fun x hx => by
  have := List.any_eq_false.1 h x hx
  simpa using this
theorem Taken.add {L : List Lt} {x : Lt} (h : Taken L) (hc : addC L x = 0) : Taken (L ++ [x]) := by
  obtain ⟨c1, c2, c3, c4, c5⟩ := addC_ok hc
  refine ⟨by simp; omega, fun y hy => ?_, ?_⟩
  · rcases List.mem_append.1 hy with hy | hy
    · exact h.2.1 y hy
    · rw [List.mem_singleton] at hy; subst hy; exact ⟨c1, c2, c3⟩
  · refine List.pairwise_append.2 ⟨h.2.2, by simp, fun a ha b hb hab => ?_⟩
    rw [List.mem_singleton] at hb
    subst hb
    have hs : a ∈ sel L (keyL b.pat) := List.mem_filter.2 ⟨ha, by rw [hab]; simp⟩
    rw [clash_comm]
    exact any_false c5 a hs
theorem Taken.pre {L M : List Lt} (h : Taken (L ++ M)) : Taken L :=
  ⟨by have := h.1; simp at this; omega, fun x hx => h.2.1 x (by simp [hx]), (List.pairwise_append.1 h.2.2).1⟩
/-- Does a route serve a method? -/
def serves (m : Txt) (x : Lt) : Bool := x.ms.isEmpty || x.ms.contains m
/-! The longest pattern. -/
end Go.Proofs.YtiglfbimijnpcaaGreatDoor

