/- The document's heads: words, digit. -/
/- The document's heads: the start line. -/
/- The document's heads: the next line. (Printed by genPrsP.py.) -/
/- The document's heads: Line. -/
/- A byte put behind a row of the call's own; the document's Reader in memory; a size line. -/
/- The document's Reader: a size line. -/
/- The document's Reader: a trailer. -/
import Derived.Test.YtiglfbimijnpcaaGreatDoorQPrsM
import Derived.Test.YtiglfbimijnpcaaGreatDoorQR
namespace Go.Proofs.YtiglfbimijnpcaaGreatDoor
open Go.RowKit Go.Proofs

theorem spc_hit {s : Txt} {k fr : Nat} (h : k < s.length) (hc : s[k] = 32) : spcT ((s.take k).drop fr) (s.drop k) = ((s.take k).drop fr) :: spcT ((s.take (k + 1)).drop (k + 1)) (s.drop (k + 1)) := by
  have e : (s.take (k + 1)).drop (k + 1) = [] := List.drop_of_length_le (by simp; omega)
  rw [e, List.drop_eq_getElem_cons h, spcT, if_pos hc]
theorem spc_other {s : Txt} {k fr : Nat} (h : k < s.length) (hf : fr ≤ k) (hc : s[k] ≠ 32) : spcT ((s.take k).drop fr) (s.drop k) = spcT ((s.take (k + 1)).drop fr) (s.drop (k + 1)) := by
  rw [List.drop_eq_getElem_cons h, spcT, if_neg hc, List.take_succ_eq_append_getElem h, List.drop_append_of_le_length (by simp; omega)]
def WordsPost (l : List Txt) (w : World) (e : Ending) (w' : World) : Prop := ∃ v, e = .returned v ∧ OwnT w' w.heap.size v l ∧ Sm No w w'
def WdRel (w : World) (s : ByteArray) (L : List Txt) (lv fv iv : Value) (wr : World) : Prop :=
  ∃ (j fr : Nat) (acc : List Txt), j ≤ s.size ∧ fr ≤ j ∧ iv = .int .i64 j ∧ fv = .int .i64 fr ∧ L = acc ++ spcT (((txt s).take j).drop fr) ((txt s).drop j) ∧ acc.length ≤ j ∧ OwnT wr w.heap.size lv acc ∧ Sm No w wr
set_option maxRecDepth 100000 in
set_option maxHeartbeats 4000000 in
theorem rWords_any (s : ByteArray) (hs : s.size ≤ 1000) (w : World) : Calls Tryz.prog 157 #[.string s] w (WordsPost (spcL (txt s)) w) := by
  obtain ⟨L, hL⟩ : ∃ L, spcL (txt s) = L := ⟨_, rfl⟩
  rw [hL]
  obtain ⟨s', hs'⟩ : ∃ s' : ByteArray, s ++ (⟨#[32]⟩ : ByteArray) = s' := ⟨_, rfl⟩
  have hz : s'.size ≤ 1001 := by rw [← hs', ByteArray.size_append]; show s.size + 1 ≤ _; omega
  have HL := Lib.hid (show L = spcT [] (txt s') from by rw [← hL, ← hs']; unfold spcL; congr 1)
  have HS' := Lib.hid hs'
  clear hL hs'
  go_enter Tryz.func157, Tryz.ntmps157
  go_wp2_with fail
  rw [HS'.out]
  go_loopw [3, 4, 5] (fun l f i wr => WdRel w s' L l f i wr) (fun _ _ i _ => s'.size - (intOf i).toNat)
  case atStart => exact ⟨0, 0, [], Nat.zero_le _, Nat.zero_le _, rfl, rfl, HL.out, Nat.le_refl _, World.ownsRow_nil _ _ _ _, Sm.refl _ _⟩
  case round =>
    obtain ⟨j, fr, acc, hj, hfr, rfl, rfl, hl, ha, hO, hsm⟩ := hrel
    have HR := Lib.hid (And.intro hl (And.intro hO hsm))
    clear hl hO hsm
    by_cases hlt : j < s'.size
    · have hlt2 : j < (txt s').length := by rw [txt_len]; exact hlt
      by_cases hq : s'[j] = 32
      · have e1 : ((s'[j].toNat : Int) == 32) = true := by rw [hq]; rfl
        have hh := spc_hit (fr := fr) hlt2 hq
        obtain ⟨p, hp⟩ : ∃ p, s'.extract fr j = p := ⟨_, rfl⟩
        have hpt : txt p = ((txt s').take j).drop fr := by rw [← hp, txt_extract, List.drop_take]
        have HX := Lib.hid (show L = (acc ++ [txt p]) ++ spcT (((txt s').take (j + 1)).drop (j + 1)) ((txt s').drop (j + 1)) from by rw [HR.out.1, hh, ← hpt]; simp)
        have HP := Lib.hid hp
        have k3 : (0 : Int) ≤ (fr : Int) := by omega
        have k4 : (fr : Int) ≤ (j : Int) := by omega
        have k5 : (j : Int) ≤ (s'.size : Int) := by omega
        clear hq hh hp hpt
        go_wp2_with (refine wpList_push rfl _ _ 82 9 rfl Tryz.underlying82 _ 1 16 infoStr rfl (by decide) (by decide) w.heap.size _ u3 _ rfl (World.ownsRow.alloc HR.out.2.1 _) wr.heap.size #[.string (s'.extract fr j)] rfl (Bk.new wr _ _) rfl (by simp [Value.oneCell']) (by omega) (by have := HR.out.2.2.size; simp; omega) ?_; intro v' w5 hown5 hs5 hv5)
        have hO5 : OwnT w5 w.heap.size v' (acc ++ [txt p]) := by
          refine OwnT.push ?_
          have h := hown5
          rw [HP.out] at h
          have e : strV (txt p) = .string p := congrArg Value.string (txt_bytes p)
          rw [e]
          simpa using h
        have hS5 : Sm No w w5 := (HR.out.2.2.alloc (.cells #[.string (s'.extract fr j)] 9)).trans hs5 (fun b hb e => by
          have := (World.ownsRow.lt HR.out.2.1 b e).1
          omega)
        exact ⟨⟨j + 1, j + 1, acc ++ [txt p], by omega, by omega, by go_num, by go_num, HX.out, by simp; omega, hO5, hS5⟩, by simp [intOf]; omega⟩
      · have e1 : ((s'[j].toNat : Int) == 32) = false := u8_ne (n := 32) (by decide) hq
        have HX := Lib.hid (show L = acc ++ spcT (((txt s').take (j + 1)).drop fr) ((txt s').drop (j + 1)) from by rw [HR.out.1, spc_other hlt2 hfr hq])
        clear hq
        go_wp2_with fail
        exact ⟨⟨j + 1, fr, acc, by omega, by omega, by go_num, rfl, HX.out, by omega, HR.out.2.1, HR.out.2.2⟩, by simp [intOf]; omega⟩
    · have HE := Lib.hid (show L = acc from by
        have e : (txt s').drop j = [] := List.drop_of_length_le (by rw [txt_len]; omega)
        rw [HR.out.1, e]
        simp [spcT])
      go_wp2_with fail
      go_ret
      exact ⟨_, rfl, by rw [HE.out]; exact HR.out.2.1, HR.out.2.2⟩
theorem rDigit13_any (c : UInt8) (w : World) : Calls Tryz.prog 158 #[.int .u8 c.toNat] w fun e w' => e = .returned (.bool (digB c)) ∧ w = w' := by
  have hc := c.toNat_lt
  obtain ⟨n, hn⟩ : ∃ n, c.toNat = n := ⟨_, rfl⟩
  unfold digB
  rw [hn] at hc ⊢
  clear hn
  by_cases h1 : 48 ≤ n
  · have i1 : (48 : Int) ≤ (n : Int) := by omega
    by_cases h2 : n ≤ 57
    · have i2 : (n : Int) ≤ 57 := by omega
      go_enter Tryz.func158, Tryz.ntmps158
      go_wp2_with fail
      go_ret
      exact ⟨ret_b (by rw [decide_eq_true h1, decide_eq_true h2]; rfl), rfl⟩
    · have i2 : ¬ (n : Int) ≤ 57 := by omega
      go_enter Tryz.func158, Tryz.ntmps158
      go_wp2_with fail
      go_ret
      exact ⟨rfl, rfl⟩
  · have i1 : ¬ (48 : Int) ≤ (n : Int) := by omega
    go_enter Tryz.func158, Tryz.ntmps158
    go_wp2_with fail
    go_ret
    exact ⟨rfl, rfl⟩
end Go.Proofs.YtiglfbimijnpcaaGreatDoor

namespace Go.Proofs.YtiglfbimijnpcaaGreatDoor
open Go.RowKit Go.Proofs

def hdTail (h : Hd) : List Value := [.string ⟨h.method.toArray⟩, .int .i64 h.target.form, .string ⟨h.target.host.toArray⟩, .string ⟨h.target.path.toArray⟩, .string ⟨h.target.query.toArray⟩, .int .i64 h.minor, .int .i64 h.how.kind, .int .i64 h.how.len, .bool h.how.close, .bool h.how.expect, .bool h.started, .bool h.whole, .int .i64 h.status, .int .i64 (h.bytes : Nat), .int .i64 (h.empty : Nat)]
/-- The document's Head at block g, its fields in v. -/
def IsHd (w : World) (B g : Nat) (v : Value) (h : Hd) : Prop := FieldsIn 90 (hdTail h) w B g v h.fields
def HdPost (w : World) (B g : Nat) (v : Value) (p : Hd × Int) (e : Ending) (w' : World) : Prop :=
  ∃ v', e = .returned (.int .i64 p.2) ∧ IsHd w' B g v' p.1 ∧ Sm (TouchF g v) w w' ∧ Follows w v v'
theorem HdPost.no {w w' : World} {B g : Nat} {v : Value} {h : Hd} {c : Int} (hI : IsHd w B g v h) (hs : Sm No w w') : HdPost w B g v (h, c) (.returned (.int .i64 c)) w' :=
  ⟨v, rfl, hI.no hs, hs.any _, Or.inl rfl⟩
def sVer : Txt := [72, 84, 84, 80, 47]
theorem verW_len {l : Txt} (h : ¬ l.length = 8) : verW l = (400, 0) := by
  unfold verW
  split
  · exact absurd rfl h
  · rfl
theorem verW_8 {l : Txt} (h : l.length = 8) : verW l = if l.take 5 = sVer ∧ l[6] = 46 then (if digB l[5] = true ∧ digB l[7] = true then (if l[5] = 49 then ((0 : Int), l[7]) else (505, 0)) else (400, 0)) else (400, 0) := by
  match l, h with
  | [a, b, c, d, e, f, g, i], _ =>
    show verW [a, b, c, d, e, f, g, i] = if [a, b, c, d, e] = sVer ∧ g = 46 then (if digB f = true ∧ digB i = true then (if f = 49 then ((0 : Int), i) else (505, 0)) else (400, 0)) else (400, 0)
    by_cases hh : [a, b, c, d, e] = sVer ∧ g = 46
    · rw [if_pos hh]
      obtain ⟨h1, rfl⟩ := hh
      injection h1 with h1 h2
      injection h2 with h2 h3
      injection h3 with h3 h4
      injection h4 with h4 h5
      injection h5 with h5 _
      subst h1 h2 h3 h4 h5
      rfl
    · rw [if_neg hh]
      unfold verW
      split
      · rename_i e1
        injection e1 with e1 e2
        injection e2 with e2 e3
        injection e3 with e3 e4
        injection e4 with e4 e5
        injection e5 with e5 e6
        injection e6 with e6 e7
        injection e7 with e7 e8
        subst e1 e2 e3 e4 e5 e7
        exact absurd ⟨rfl, rfl⟩ hh
      · rfl
theorem spcT_len : ∀ (l cur x : Txt), x ∈ spcT cur l → x.length ≤ cur.length + l.length
  | [], cur, x, h => by cases h
  | c :: l, cur, x, h => by
    rw [spcT] at h
    rw [List.length_cons]
    split at h
    · rcases List.mem_cons.1 h with rfl | h
      · omega
      · have := spcT_len l [] x h
        simp at this
        omega
    · have := spcT_len l _ x h
      rw [List.length_append] at this
      simp at this
      omega
theorem spcL_len {s x : Txt} (h : x ∈ spcL s) : x.length ≤ s.length + 1 := by
  have := spcT_len _ _ _ h
  simpa using this
theorem startW_len {h : Hd} {l : List Txt} (hl : ¬ l.length = 3) : startW h l = (h, 400) := by
  unfold startW
  split
  · exact absurd rfl hl
  · rfl
theorem startW_tok {h : Hd} {m s v : Txt} (ht : tokL m = false) : startW h [m, s, v] = (h, 400) := by
  unfold startW; dsimp only; rw [if_pos ht]
theorem startW_ver {h : Hd} {m s v : Txt} (ht : tokL m = true) (hv : (verW v).1 ≠ 0) : startW h [m, s, v] = (h, (verW v).1) := by
  unfold startW; dsimp only; rw [if_neg (by rw [ht]; decide), if_pos hv]
theorem startW_end {h : Hd} {m s v : Txt} (ht : tokL m = true) (hv : (verW v).1 = 0) : startW h [m, s, v] = match tgtL m s with
    | (some t, _) => (startH h m t (verW v).2, 0)
    | (none, c) => (h, if c = 9 then 414 else 400) := by
  unfold startW; dsimp only; (rw [if_neg (by rw [ht]; decide), if_neg (by rw [hv]; decide)]) <;> rfl
theorem three {l : List Txt} (h : l.length = 3) : ∃ m s v, l = [m, s, v] := by
  match l, h with
  | [m, s, v], _ => exact ⟨m, s, v, rfl⟩
theorem tgtL_code {m s : Txt} {c : Int} (h : tgtL m s = (none, c)) : c = 8 ∨ c = 9 := by
  unfold tgtL at h
  split at h
  · injection h with _ h; exact Or.inr h.symm
  · split at h
    · split at h
      · cases h
      · injection h with _ h; exact Or.inl h.symm
    · split at h
      · cases h
      · split at h
        · split at h
          · cases h
          · injection h with _ h; exact Or.inl h.symm
        · split at h
          · injection h with _ h; exact Or.inl h.symm
          · injection h with _ h; exact Or.inl h.symm
def StV (T : Option Tg × Int) (f : Int) (hB pB qB : ByteArray) (k : Int) : Prop := match T with
  | (some t, _) => k = 0 ∧ f = t.form ∧ hB = ⟨t.host.toArray⟩ ∧ pB = ⟨t.path.toArray⟩ ∧ qB = ⟨t.query.toArray⟩
  | (none, c) => k = c
/-- What Parse gives, whether there is a target or none. -/
theorem rTgt_two (mB tB : ByteArray) : ∃ f hB pB qB k, StV (tgtL (txt mB) (txt tB)) f hB pB qB k ∧ ∀ w, Calls Tryz.prog 159 #[.string mB, .string tB] w fun e w' => e = .returned (.tuple #[.agg #[.int .i64 f, .string hB, .string pB, .string qB], .int .i64 k]) ∧ Sm No w w' := by
  have H := rTarget_any mB tB
  cases hT : tgtL (txt mB) (txt tB) with
  | mk O c =>
    rw [hT] at H
    cases O with
    | none => exact ⟨0, ⟨#[]⟩, ⟨#[]⟩, ⟨#[]⟩, c, rfl, fun w => (H w).mono fun e w' h => ⟨h.2, h.1⟩⟩
    | some t => exact ⟨t.form, _, _, _, 0, ⟨rfl, rfl, rfl, rfl, rfl⟩, fun w => (H w).mono fun e w' h => ⟨h.2, h.1⟩⟩
/-- Behind the target. -/
def StC (w : World) (f : Int) (hB pB qB : ByteArray) (k : Int) (pv ev : Value) (wx : World) : Prop :=
  ∃ b, pv = .pointer (some ⟨b, 0, none⟩) ∧ w.heap.size ≤ b ∧ Sm No w wx ∧ ev = .int .i64 k ∧ Bk wx b 26 #[.int .i64 f, .string hB, .string pB, .string qB]
theorem startW_bad {h : Hd} {m s x : Txt} (ht : tokL m = true) (hv : (verW x).1 = 0) {f k : Int} {hB pB qB : ByteArray} (hS : StV (tgtL m s) f hB pB qB k) (hk : k ≠ 0) : startW h [m, s, x] = (h, if k = 9 then 414 else 400) := by
  rw [startW_end ht hv]
  cases hT : tgtL m s with
  | mk O c =>
    rw [hT] at hS
    cases O with
    | none => have e : k = c := hS; rw [e]
    | some t => exact absurd hS.1 hk
theorem startW_good {h : Hd} {m s x : Txt} (ht : tokL m = true) (hv : (verW x).1 = 0) {f : Int} {hB pB qB : ByteArray} (hS : StV (tgtL m s) f hB pB qB 0) :
    ∃ t : Tg, startW h [m, s, x] = (startH h m t (verW x).2, 0) ∧ f = t.form ∧ hB = ⟨t.host.toArray⟩ ∧ pB = ⟨t.path.toArray⟩ ∧ qB = ⟨t.query.toArray⟩ := by
  rw [startW_end ht hv]
  cases hT : tgtL m s with
  | mk O c =>
    rw [hT] at hS
    cases O with
    | none => have e : 0 = c := hS; rcases tgtL_code hT with h | h <;> omega
    | some t => exact ⟨t, rfl, hS.2⟩
theorem Sm.keep {S : Nat → Prop} {w w' : World} (h : Sm S w w') {b o : Nat} (hb : b < w.heap.size) (hn : ¬ S b) {v : Value} (hc : w.cell? ⟨b, o, none⟩ = some v) : w'.cell? ⟨b, o, none⟩ = some v :=
  (World.cell?_of_block (w := w) (a := ⟨b, o, none⟩) (h.block b hb hn)).trans hc
set_option maxRecDepth 100000 in
set_option maxHeartbeats 16000000 in
theorem rStart_any (w : World) (B g : Nat) (v : Value) (h : Hd) (s : ByteArray) (hI : IsHd w B g v h) (hs : s.size ≤ 256) :
    Calls Tryz.prog 128 #[.pointer (some ⟨g, 0, none⟩), .string s] w (HdPost w B g v (startW h (spcL (txt s)))) := by
  have HI := Lib.hid hI
  have HW := Lib.hid (rWords_any s (by omega) w)
  obtain ⟨L, hL⟩ : ∃ L, spcL (txt s) = L := ⟨_, rfl⟩
  have HLen := Lib.hid (show ∀ x ∈ L, x.length ≤ 257 from fun x hx => by rw [← hL] at hx; have := spcL_len hx; rw [txt_len] at this; omega)
  rw [hL] at HW ⊢
  obtain ⟨P, hP⟩ : ∃ P, startW h L = P := ⟨_, rfl⟩
  rw [hP]
  have HP := Lib.hid hP
  have hgl := hI.1.lt
  clear hI hL hP
  go_enter Tryz.func128, Tryz.ntmps128
  go_wp2_with fail
  refine HW.out.mono ?_
  rintro e w1 ⟨vs, rfl, hO, hs1⟩
  obtain ⟨A, c, rfl, hR⟩ := hO.row2
  by_cases h3 : L.length = 3
  · obtain ⟨m, t, x, rfl⟩ := three h3
    obtain ⟨bb, off, rfl, hbb, r0⟩ := hR.at (j := 0) (u := strV m) rfl
    obtain ⟨b2, o2, hA, _, r1⟩ := hR.at (j := 1) (u := strV t) rfl
    injection hA with hA; injection hA with hA1 hA2; subst hA1 hA2
    obtain ⟨b2, o2, hA, _, r2⟩ := hR.at (j := 2) (u := strV x) rfl
    injection hA with hA; injection hA with hA1 hA2; subst hA1 hA2
    have hbw : w.heap.size ≤ bb := (World.ownsRow.lt hO bb rfl).1
    rw [Nat.add_zero] at r0
    rw [strV] at r0 r1 r2
    have hml := HLen.out m (by simp)
    have htl := HLen.out t (by simp)
    have hxl := HLen.out x (by simp)
    obtain ⟨mB, hmB⟩ : ∃ mB : ByteArray, (⟨m.toArray⟩ : ByteArray) = mB := ⟨_, rfl⟩
    obtain ⟨tB, htB⟩ : ∃ tB : ByteArray, (⟨t.toArray⟩ : ByteArray) = tB := ⟨_, rfl⟩
    obtain ⟨xB, hxB⟩ : ∃ xB : ByteArray, (⟨x.toArray⟩ : ByteArray) = xB := ⟨_, rfl⟩
    have hmt : txt mB = m := by rw [← hmB]; rfl
    have htt : txt tB = t := by rw [← htB]; rfl
    have hxt : txt xB = x := by rw [← hxB]; rfl
    have hmz : mB.size ≤ 257 := by rw [← txt_len, hmt]; exact hml
    have htz : tB.size ≤ 257 := by rw [← txt_len, htt]; exact htl
    have hxz : xB.size ≤ 257 := by rw [← txt_len, hxt]; exact hxl
    rw [hmB] at r0
    rw [htB] at r1
    rw [hxB] at r2
    have H1 := Lib.hid (And.intro hs1 (And.intro hmt (And.intro htt hxt)))
    rw [show ([m, t, x] : List Txt).length = 3 from rfl]
    clear hs1 hO hR hmB htB hxB hmt htt hxt h3 hml htl hxl
    obtain ⟨f, hf⟩ : ∃ f, tokL mB.data.toList = f := ⟨_, rfl⟩
    have HF := Lib.hid hf
    clear hf
    go_wp2_with fail
    refine (rIsToken_say HF (by omega) _).mono ?_
    rintro e w2 ⟨rfl, rfl⟩
    have HTk := Lib.hid (show tokL m = f from by rw [← H1.out.2.1]; exact HF.out)
    cases f with
    | false =>
      go_wp2_with fail
      go_ret
      rw [← HP.out, startW_tok HTk.out]
      exact HdPost.no HI.out H1.out.1
    | true =>
      have HNo := Lib.hid (fun hv : (verW x).1 = 400 => show HdPost w B g v P (.returned (.int .i64 400)) w1 from by
        rw [← HP.out, startW_ver HTk.out (by rw [hv]; decide), hv]
        exact HdPost.no HI.out H1.out.1)
      by_cases h8 : xB.size = 8
      · have i8 : (xB.size : Int) = 8 := by omega
        have H8 := Lib.hid (verW_8 (l := txt xB) (by rw [txt_len]; exact h8))
        have HX := Lib.hid (fun hv : (verW (txt xB)).1 = 400 => HNo.out (by rw [← H1.out.2.2.2]; exact hv))
        have g5 : (txt xB)[5]'(by rw [txt_len]; omega) = xB[5] := rfl
        by_cases hp : (xB.extract 0 5).toList = [72, 84, 84, 80, 47]
        · have hpt : (txt xB).take 5 = sVer := by
            have h := txt_extract xB 0 5
            rw [List.drop_zero] at h
            rw [← h]
            have h2 : txt (xB.extract 0 5) = (xB.extract 0 5).toList := (ByteArray.toList_eq _).symm
            rw [h2, hp]
            rfl
          obtain ⟨d5, hd5⟩ : ∃ d, digB xB[5] = d := ⟨_, rfl⟩
          obtain ⟨d7, hd7⟩ : ∃ d, digB xB[7] = d := ⟨_, rfl⟩
          have HD5 := Lib.hid (fun w : World => hd5 ▸ rDigit13_any xB[5] w)
          have HD7 := Lib.hid (fun w : World => hd7 ▸ rDigit13_any xB[7] w)
          have HVv := Lib.hid (show verW (txt xB) = if xB[6] = 46 then (if d5 = true ∧ d7 = true then (if xB[5] = 49 then ((0 : Int), xB[7]) else (505, 0)) else (400, 0)) else (400, 0) from by
            rw [H8.out, ← hd5, ← hd7]
            by_cases q : xB[6] = 46
            · rw [if_pos ⟨hpt, q⟩, if_pos q]; rfl
            · rw [if_neg (fun h => q h.2), if_neg q])
          clear hpt hd5 hd7 g5
          cases d5 with
          | false =>
            have HV := Lib.hid (HX.out (by
              rw [HVv.out]
              split
              · rw [if_neg (by simp)]
              · rfl))
            go_wp2_with fail
            refine (HD5.out _).mono ?_
            rintro e w2 ⟨rfl, rfl⟩
            go_wp2_with fail
            go_ret
            exact HV.out
          | true =>
            by_cases h6 : xB[6] = 46
            · have e6 : ((xB[6].toNat : Int) == 46) = true := by rw [h6]; rfl
              have e7 : ((xB[6].toNat : Int) != 46) = false := by rw [h6]; rfl
              have HV2 := Lib.hid (HVv.out.trans (if_pos h6))
              clear h6
              cases d7 with
              | false =>
                have HV := Lib.hid (HX.out (by rw [HV2.out, if_neg (by simp)]))
                go_wp2_with fail
                refine (HD5.out _).mono ?_
                rintro e w2 ⟨rfl, rfl⟩
                go_wp2_with fail
                refine (HD7.out _).mono ?_
                rintro e w2 ⟨rfl, rfl⟩
                go_wp2_with fail
                go_ret
                exact HV.out
              | true =>
                by_cases h5 : xB[5] = 49
                · have f5 : ((xB[5].toNat : Int) == 49) = true := by rw [h5]; rfl
                  have f6 : ((xB[5].toNat : Int) != 49) = false := by rw [h5]; rfl
                  have HV3 := Lib.hid (show verW x = ((0 : Int), xB[7]) from by rw [← H1.out.2.2.2, HV2.out, if_pos ⟨rfl, rfl⟩, if_pos h5])
                  clear h5
                  obtain ⟨tf, hB, pB, qB, k, hST, hcall⟩ := rTgt_two mB tB
                  have HC := Lib.hid hcall
                  have HST := Lib.hid hST
                  clear hcall hST
                  go_wp2_with fail
                  refine (HD5.out _).mono ?_
                  rintro e w2 ⟨rfl, rfl⟩
                  go_wp2_with fail
                  refine (HD7.out _).mono ?_
                  rintro e w2 ⟨rfl, rfl⟩
                  go_upto_region 9 with fail
                  go_cut [7, 8] (fun p e wx => StC w1 tf hB pB qB k p e wx)
                  case first =>
                    have r0d : w1.drew.cell? ⟨bb, off, none⟩ = some (.string mB) := r0
                    have r1d : w1.drew.cell? ⟨bb, off + 1, none⟩ = some (.string tB) := r1
                    go_region_held3 (fun w' => w'.cell? ⟨bb, off, none⟩ = some (.string mB) ∧ w'.cell? ⟨bb, off + 1, none⟩ = some (.string tB)) (first | with_reducible exact ⟨r0, r1⟩ | with_reducible exact ⟨r0d, r1d⟩ | with_reducible exact ⟨r3, r4⟩ | with_reducible exact ⟨((Sm.refl No w1).alloc _).drew.cell hbb r0, ((Sm.refl No w1).alloc _).drew.cell hbb r1⟩ | with_reducible exact ⟨(hs5.alloc _).cell hbb r0, (hs5.alloc _).cell hbb r1⟩ | with_reducible exact ⟨(((((hs5.alloc _).setN hs5.size 0 _).setN hs5.size 1 _).setN hs5.size 2 _).setN hs5.size 3 _).cell hbb r0, (((((hs5.alloc _).setN hs5.size 0 _).setN hs5.size 1 _).setN hs5.size 2 _).setN hs5.size 3 _).cell hbb r1⟩ | with_reducible exact ⟨((((hs6.setN (Nat.le_refl _) 0 _).setN (Nat.le_refl _) 1 _).setN (Nat.le_refl _) 2 _).setN (Nat.le_refl _) 3 _).cell hbb r0, ((((hs6.setN (Nat.le_refl _) 0 _).setN (Nat.le_refl _) 1 _).setN (Nat.le_refl _) 2 _).setN (Nat.le_refl _) 3 _).cell hbb r1⟩)
                      (first
                        | (go_at_call 159; (with_reducible refine (HC.out _).mono ?_); rintro e w4 ⟨rfl, hs4⟩; have hs5 := (Sm.refl No w1).drew.trans hs4 (fun _ _ h => h); have r3 := hs5.cell hbb r0; have r4 := hs5.cell hbb r1)
                        | (go_at_call 159; (with_reducible refine (HC.out _).mono ?_); rintro e w4 ⟨rfl, hs4⟩; have hs6 := ((Sm.refl No w1).alloc _).drew.trans hs4 (fun _ _ h => h); have hb6 : Bk w4 w1.heap.size 26 #[.int .i64 0, .string ⟨#[]⟩, .string ⟨#[]⟩, .string ⟨#[]⟩] := (Bk.new w1 _ _).drew.sm hs4 (fun h => h); have hl6 := hb6.lt; have hc6 := hb6.all; have hz6 := hb6.fz; have r3 := hs6.cell hbb r0; have r4 := hs6.cell hbb r1))
                    · go_wp2_with fail
                      go_meet
                      exact ⟨_, rfl, hs5.size, hs5.alloc _, rfl, Bk.new w4 _ _⟩
                    · go_wp2_with fail
                      go_meet
                      exact ⟨_, rfl, Nat.le_refl _, (((hs6.setN (Nat.le_refl _) 0 _).setN (Nat.le_refl _) 1 _).setN (Nat.le_refl _) 2 _).setN (Nat.le_refl _) 3 _, rfl, (((hb6.set 0 _).set 1 _).set 2 _).set 3 _⟩
                  case rest =>
                    obtain ⟨wk, rfl⟩ : ∃ wk : World, wk = wc := ⟨_, rfl⟩
                    obtain ⟨b, rfl, hb1, hs2, rfl, hbt⟩ := hcut
                    have hS := HST.out
                    rw [H1.out.2.1, H1.out.2.2.1] at hS
                    by_cases k0 : k = 0
                    · subst k0
                      obtain ⟨tg, hg1, hg2⟩ := startW_good (h := h) HTk.out (by rw [HV3.out]) hS
                      have hbg : Bk wk g 90 #[v, .string ⟨h.method.toArray⟩, .int .i64 h.target.form, .string ⟨h.target.host.toArray⟩, .string ⟨h.target.path.toArray⟩, .string ⟨h.target.query.toArray⟩, .int .i64 h.minor, .int .i64 h.how.kind, .int .i64 h.how.len, .bool h.how.close, .bool h.how.expect, .bool h.started, .bool h.whole, .int .i64 h.status, .int .i64 (h.bytes : Nat), .int .i64 (h.empty : Nat)] := ((HI.out.no H1.out.1).no hs2).1
                      have hbl := Nat.le_trans H1.out.1.size hb1
                      have HG := Lib.hid (And.intro hg1 (And.intro hg2 (And.intro hbg (And.intro hbt (And.intro hs2 hbl)))))
                      have hne : b ≠ g := by omega
                      have hnb : bb ≠ g := by omega
                      have hgw : g < wk.heap.size := hbg.lt
                      have hcg := hbg.all
                      have hzg := hbg.fz
                      obtain ⟨wd, hwd⟩ : ∃ wd, wk.setCell ⟨g, 11, none⟩ (.bool true) = wd := ⟨_, rfl⟩
                      have hbd : Bk wd g 90 #[v, .string ⟨h.method.toArray⟩, .int .i64 h.target.form, .string ⟨h.target.host.toArray⟩, .string ⟨h.target.path.toArray⟩, .string ⟨h.target.query.toArray⟩, .int .i64 h.minor, .int .i64 h.how.kind, .int .i64 h.how.len, .bool h.how.close, .bool h.how.expect, .bool true, .bool h.whole, .int .i64 h.status, .int .i64 (h.bytes : Nat), .int .i64 (h.empty : Nat)] := by rw [← hwd]; exact (hbg.set 11 _).eq rfl
                      have hsd : Sm (fun x => x = g) wk wd := by rw [← hwd]; exact (Sm.refl _ wk).set1 11 _
                      have x0 : wd.cell? ⟨bb, off, none⟩ = some (.string mB) := hsd.keep (Nat.lt_of_lt_of_le hbb hs2.size) hnb (hs2.cell hbb r0)
                      have hbtd : Bk wd b 26 #[.int .i64 tf, .string hB, .string pB, .string qB] := hbt.sm hsd hne
                      have HWd := Lib.hid hwd
                      have HD := Lib.hid (And.intro hbd hsd)
                      clear hS hg1 hg2 hbg hbt hs2 hwd
                      go_upto_region 15 with fail
                      rw [HWd.out]
                      clear hcg hzg hgw
                      have hgw := hbd.lt
                      have hcg := hbd.all
                      have hzg := hbd.fz
                      have y0 := hbtd.at 0 rfl
                      have y1 := hbtd.at 1 rfl
                      have y2 := hbtd.at 2 rfl
                      have y3 := hbtd.at 3 rfl
                      have HK := Lib.hid (show ∀ W', Sm (fun x => x = g) wd W' → W'.cell? ⟨bb, off, none⟩ = some (.string mB) ∧ W'.cell? ⟨b, 0, none⟩ = some (.int .i64 tf) ∧ W'.cell? ⟨b, 1, none⟩ = some (.string hB) ∧ W'.cell? ⟨b, 2, none⟩ = some (.string pB) ∧ W'.cell? ⟨b, 3, none⟩ = some (.string qB) from fun W' hW =>
                        ⟨hW.keep (Nat.lt_of_lt_of_le hbb (Nat.le_trans HG.out.2.2.2.2.1.size HD.out.2.size)) hnb x0, hW.keep hbtd.lt hne y0, hW.keep hbtd.lt hne y1, hW.keep hbtd.lt hne y2, hW.keep hbtd.lt hne y3⟩)
                      clear hbd hsd hbtd
                      go_cut [] (fun wx => Bk wx g 90 #[v, .string mB, .int .i64 tf, .string hB, .string pB, .string qB, .int .i64 h.minor, .int .i64 h.how.kind, .int .i64 h.how.len, .bool h.how.close, .bool h.how.expect, .bool true, .bool h.whole, .int .i64 h.status, .int .i64 (h.bytes : Nat), .int .i64 (h.empty : Nat)] ∧ Sm (fun x => x = g) wk wx)
                      case first =>
                        go_region
                        go_wp2_with fail
                        go_meet
                        exact ⟨((((((HD.out.1.set 1 _).set 2 _).set 3 _).set 4 _).set 5 _).drew).eq rfl, HD.out.2.trans ((((((Sm.refl _ wd).set1 1 _).set1 2 _).set1 3 _).set1 4 _).set1 5 _).drew (fun _ _ h => h)⟩
                      case rest =>
                        obtain ⟨hbe, hse⟩ := hcut
                        have hgw := hbe.lt
                        have hcg := hbe.all
                        have hzg := hbe.fz
                        have HE := Lib.hid (And.intro hbe hse)
                        have HFin := Lib.hid (show ∀ (wf : World) (b7 : UInt8) (mi : Int), xB[7] = b7 → (if b7 = 48 then h.minor else 1) = mi → Bk wf g 90 #[v, .string mB, .int .i64 tf, .string hB, .string pB, .string qB, .int .i64 mi, .int .i64 h.how.kind, .int .i64 h.how.len, .bool h.how.close, .bool h.how.expect, .bool true, .bool h.whole, .int .i64 h.status, .int .i64 (h.bytes : Nat), .int .i64 (h.empty : Nat)] → Sm (fun x => x = g) wk wf → HdPost w B g v P (.returned (.int .i64 0)) wf from fun wf b7 mi hb7 hmi hb hsf => by
                          obtain ⟨e1, e2, e3, e4⟩ := HG.out.2.1
                          have hmB : mB = ⟨m.toArray⟩ := by rw [← H1.out.2.1]; exact (txt_bytes mB).symm
                          have hsw : Sm (fun x => x = g) w wf := ((H1.out.1.any (fun x => x = g)).trans (HG.out.2.2.2.2.1.any (fun x => x = g)) (fun _ _ h => h)).trans hsf (fun _ _ h => h)
                          have hvo := HI.out
                          have hvo : v.ownBlock ≠ some g := hvo.2.2
                          refine ⟨v, by rw [← HP.out, HG.out.1], ?_, hsw.mono (fun b _ e => Or.inl e), Or.inl rfl⟩
                          rw [← HP.out, HG.out.1]
                          refine ⟨hb.eq ?_, own_row_sm HI.out.2.1 hsw (fun b hb e => hvo (by rw [hb, e])), hvo⟩
                          rw [hmB, e1, e2, e3, e4, ← hmi, ← hb7, HV3.out]
                          rfl)
                        clear hbe hse
                        obtain ⟨b7, hb7⟩ : ∃ b7, xB[7] = b7 := ⟨_, rfl⟩
                        have HB7 := Lib.hid hb7
                        by_cases h7 : b7 = 48
                        · have f1 : ((b7.toNat : Int) == 48) = true := by rw [h7]; rfl
                          have f2 : ((b7.toNat : Int) != 48) = false := by rw [h7]; rfl
                          have H7 := Lib.hid h7
                          clear h7
                          go_wp2_with fail
                          go_ret
                          exact HFin.out _ b7 _ HB7.out (if_pos H7.out) HE.out.1 HE.out.2
                        · have f1 : ((b7.toNat : Int) == 48) = false := u8_ne (n := 48) (by decide) h7
                          have f2 : ((b7.toNat : Int) != 48) = true := by simpa using f1
                          have H7 := Lib.hid h7
                          clear h7
                          go_wp2_with fail
                          go_ret
                          exact HFin.out _ b7 1 HB7.out (if_neg H7.out) ((HE.out.1.set 6 _).eq rfl) (HE.out.2.trans ((Sm.refl _ _).set1 6 _) (fun _ _ h => h))
                    · have e0 : (k == 0) = false := by simp [k0]
                      have e1 : (k != 0) = true := by simp [k0]
                      have HB := Lib.hid (startW_bad (h := h) HTk.out (by rw [HV3.out]) hS k0)
                      have HS2 := Lib.hid (H1.out.1.trans hs2 (fun _ _ h => h))
                      clear hS hs2 hbt k0
                      by_cases k9 : k = 9
                      · subst k9
                        go_wp2_with fail
                        go_ret
                        rw [← HP.out, HB.out, if_pos (by trivial)]
                        exact HdPost.no HI.out HS2.out
                      · have e2 : (k == 9) = false := by simp [k9]
                        have HK9 := Lib.hid k9
                        clear k9
                        go_wp2_with fail
                        go_ret
                        rw [← HP.out, HB.out, if_neg HK9.out]
                        exact HdPost.no HI.out HS2.out
                · have f5 : ((xB[5].toNat : Int) == 49) = false := u8_ne (n := 49) (by decide) h5
                  have f6 : ((xB[5].toNat : Int) != 49) = true := by simpa using f5
                  have HV3 := Lib.hid (show verW x = (505, 0) from by rw [← H1.out.2.2.2, HV2.out, if_pos ⟨rfl, rfl⟩, if_neg h5])
                  clear h5
                  go_wp2_with fail
                  refine (HD5.out _).mono ?_
                  rintro e w2 ⟨rfl, rfl⟩
                  go_wp2_with fail
                  refine (HD7.out _).mono ?_
                  rintro e w2 ⟨rfl, rfl⟩
                  go_wp2_with fail
                  go_ret
                  rw [← HP.out, startW_ver HTk.out (by rw [HV3.out]; decide), HV3.out]
                  exact HdPost.no HI.out H1.out.1
            · have e6 : ((xB[6].toNat : Int) == 46) = false := u8_ne (n := 46) (by decide) h6
              have e7 : ((xB[6].toNat : Int) != 46) = true := by simpa using e6
              have HV := Lib.hid (HX.out (by rw [HVv.out, if_neg h6]))
              clear h6
              go_wp2_with fail
              refine (HD5.out _).mono ?_
              rintro e w2 ⟨rfl, rfl⟩
              go_wp2_with fail
              go_ret
              exact HV.out
        · have e9 : ((xB.extract 0 5).toList == [72, 84, 84, 80, 47]) = false := by simpa using hp
          have e10 : ((xB.extract 0 5).toList != [72, 84, 84, 80, 47]) = true := by simpa using hp
          have HV := Lib.hid (HX.out (by
            rw [H8.out, if_neg]
            intro h
            apply hp
            have h2 := txt_extract xB 0 5
            rw [List.drop_zero] at h2
            rw [ByteArray.toList_eq]
            exact h2.trans h.1))
          clear g5
          go_wp2_with fail
          go_ret
          exact HV.out
      · have e8 : ((xB.size : Int) == 8) = false := by rw [beq_eq_false_iff_ne]; omega
        have e9 : ((xB.size : Int) != 8) = true := by simpa using e8
        have HV := Lib.hid (HNo.out (by rw [← H1.out.2.2.2, verW_len (by rw [txt_len]; exact h8)]))
        clear h8
        go_wp2_with fail
        go_ret
        exact HV.out
  · obtain ⟨n, hn⟩ : ∃ n, L.length = n := ⟨_, rfl⟩
    rw [hn] at h3 ⊢
    have e1 : ((n : Int) == 3) = false := by rw [beq_eq_false_iff_ne]; omega
    have e2 : ((n : Int) != 3) = true := by simpa using e1
    have HN := Lib.hid (startW_len (h := h) (l := L) (by rw [hn]; exact h3))
    have HS1 := Lib.hid hs1
    clear hs1 hO hR hn h3
    go_wp2_with fail
    go_ret
    rw [← HP.out, HN.out]
    exact HdPost.no HI.out HS1.out
end Go.Proofs.YtiglfbimijnpcaaGreatDoor

namespace Go.Proofs.YtiglfbimijnpcaaGreatDoor
open Go.RowKit Go.Proofs

/-- What is always so of a head that may go on. -/
structure HdOk (h : Hd) : Prop where
  len : h.fields.length ≤ 24
  size : fsz h.fields ≤ h.bytes
  bytes : h.bytes ≤ 1024
  empty : h.empty ≤ 4
  minor : h.minor = 0 ∨ h.minor = 1
theorem HdOk.light {h : Hd} (o : HdOk h) : LightF h.fields := ⟨o.len, by have := o.size; have := o.bytes; omega⟩
theorem IsHd.bk {w : World} {B g : Nat} {v : Value} {h : Hd} (hI : IsHd w B g v h) : Bk w g 90 #[v, .string ⟨h.method.toArray⟩, .int .i64 h.target.form, .string ⟨h.target.host.toArray⟩, .string ⟨h.target.path.toArray⟩, .string ⟨h.target.query.toArray⟩, .int .i64 h.minor, .int .i64 h.how.kind, .int .i64 h.how.len, .bool h.how.close, .bool h.how.expect, .bool h.started, .bool h.whole, .int .i64 h.status, .int .i64 (h.bytes : Nat), .int .i64 (h.empty : Nat)] := hI.1
theorem IsHd.no {w w' : World} {B g : Nat} {v : Value} {h : Hd} (hI : IsHd w B g v h) (hs : Sm No w w') : IsHd w' B g v h := FieldsIn.no hI hs
theorem IsHd.of {w w' : World} {B g : Nat} {v : Value} {h h' : Hd} (hI : IsHd w B g v h) (hf : h'.fields = h.fields) (hs : Sm (fun x => x = g) w w') (hb : Bk w' g 90 (v :: hdTail h').toArray) : IsHd w' B g v h' :=
  ⟨hb, by rw [hf]; exact own_row_sm hI.2.1 hs (fun b hb e => hI.2.2 (by rw [hb, e])), hI.2.2⟩
theorem HdPost.one {w w' : World} {B g : Nat} {v : Value} {h h' : Hd} {c : Int} (hI : IsHd w B g v h) (hf : h'.fields = h.fields) (hs : Sm (fun x => x = g) w w') (hb : Bk w' g 90 (v :: hdTail h').toArray) : HdPost w B g v (h', c) (.returned (.int .i64 c)) w' :=
  ⟨v, rfl, hI.of hf hs hb, hs.mono (fun _ _ e => Or.inl e), Or.inl rfl⟩
theorem HdPost.base {w w1 w' : World} {B g : Nat} {v : Value} {p : Hd × Int} {e : Ending} (h : HdPost w1 B g v p e w') (hs : Sm (fun x => x = g) w w1) : HdPost w B g v p e w' := by
  obtain ⟨v', h1, h2, h3, h4⟩ := h
  refine ⟨v', h1, h2, (hs.mono (fun _ _ e => Or.inl e)).trans h3 (fun _ _ e => e), ?_⟩
  rcases h4 with h4 | ⟨b, h4, h5⟩
  · exact Or.inl h4
  · exact Or.inr ⟨b, h4, Nat.le_trans hs.size h5⟩
theorem IsHd.more {w : World} {B g : Nat} {v : Value} {h : Hd} (hI : IsHd w B g v h) (n : Nat) : IsHd (w.setCell ⟨g, 14, none⟩ (.int .i64 ((h.bytes : Int) + (n : Int) + 2))) B g v (h.more n) := by
  refine hI.of rfl ((Sm.refl _ w).set1 14 _) ((hI.bk.set 14 _).eq ?_)
  show _ = (v :: hdTail (h.more n)).toArray
  rw [show (h.bytes : Int) + (n : Int) + 2 = ((h.bytes + n + 2 : Nat) : Int) by omega]
  rfl
set_option maxRecDepth 100000 in
set_option maxHeartbeats 8000000 in
theorem hl_long_true (w : World) (B g : Nat) (v : Value) (h : Hd) (s : ByteArray) (hI : IsHd w B g v h) (ho : HdOk h) (hst : h.started = true) (h1 : 256 < s.size) : Calls Tryz.prog 105 #[.pointer (some ⟨g, 0, none⟩), .string s] w (HdPost w B g v (h, 431)) := by
  have hbg := hI.bk
  have hgl := hbg.lt
  have hc := hbg.all
  have hz := hbg.fz
  have hby := ho.bytes
  have hem := ho.empty
  have HI := Lib.hid (And.intro hI ho)
  clear hI ho hbg
  have i1 : (256 : Int) < (s.size : Int) := by omega
  go_enter Tryz.func105, Tryz.ntmps105
  go_wp2_with fail
  go_ret
  exact HdPost.no HI.out.1 (Sm.refl _ _)
set_option maxRecDepth 100000 in
set_option maxHeartbeats 8000000 in
theorem hl_over_true (w : World) (B g : Nat) (v : Value) (h : Hd) (s : ByteArray) (hI : IsHd w B g v h) (ho : HdOk h) (hst : h.started = true) (h1 : s.size ≤ 256) (h2 : 1024 < h.bytes + s.size + 2) : Calls Tryz.prog 105 #[.pointer (some ⟨g, 0, none⟩), .string s] w (HdPost w B g v (h.more s.size, 431)) := by
  have hbg := hI.bk
  have hgl := hbg.lt
  have hc := hbg.all
  have hz := hbg.fz
  have hby := ho.bytes
  have hem := ho.empty
  have HI := Lib.hid (And.intro hI ho)
  clear hI ho hbg
  have i1 : ¬ (256 : Int) < (s.size : Int) := by omega
  have i2 : (1024 : Int) < (h.bytes : Int) + (s.size : Int) + 2 := by omega
  go_enter Tryz.func105, Tryz.ntmps105
  go_wp2_with fail
  go_ret
  exact HdPost.one HI.out.1 rfl ((Sm.refl _ w).set1 14 _) (HI.out.1.more s.size).1
set_option maxRecDepth 100000 in
set_option maxHeartbeats 8000000 in
theorem hl_long_false (w : World) (B g : Nat) (v : Value) (h : Hd) (s : ByteArray) (hI : IsHd w B g v h) (ho : HdOk h) (hst : h.started = false) (h1 : 256 < s.size) : Calls Tryz.prog 105 #[.pointer (some ⟨g, 0, none⟩), .string s] w (HdPost w B g v (h, 414)) := by
  have hbg := hI.bk
  have hgl := hbg.lt
  have hc := hbg.all
  have hz := hbg.fz
  have hby := ho.bytes
  have hem := ho.empty
  have HI := Lib.hid (And.intro hI ho)
  clear hI ho hbg
  have i1 : (256 : Int) < (s.size : Int) := by omega
  go_enter Tryz.func105, Tryz.ntmps105
  go_wp2_with fail
  go_ret
  exact HdPost.no HI.out.1 (Sm.refl _ _)
set_option maxRecDepth 100000 in
set_option maxHeartbeats 8000000 in
theorem hl_over_false (w : World) (B g : Nat) (v : Value) (h : Hd) (s : ByteArray) (hI : IsHd w B g v h) (ho : HdOk h) (hst : h.started = false) (h1 : s.size ≤ 256) (h2 : 1024 < h.bytes + s.size + 2) : Calls Tryz.prog 105 #[.pointer (some ⟨g, 0, none⟩), .string s] w (HdPost w B g v (h.more s.size, 414)) := by
  have hbg := hI.bk
  have hgl := hbg.lt
  have hc := hbg.all
  have hz := hbg.fz
  have hby := ho.bytes
  have hem := ho.empty
  have HI := Lib.hid (And.intro hI ho)
  clear hI ho hbg
  have i1 : ¬ (256 : Int) < (s.size : Int) := by omega
  have i2 : (1024 : Int) < (h.bytes : Int) + (s.size : Int) + 2 := by omega
  go_enter Tryz.func105, Tryz.ntmps105
  go_wp2_with fail
  go_ret
  exact HdPost.one HI.out.1 rfl ((Sm.refl _ w).set1 14 _) (HI.out.1.more s.size).1
set_option maxRecDepth 100000 in
set_option maxHeartbeats 8000000 in
theorem hl_e0 (w : World) (B g : Nat) (v : Value) (h : Hd) (s : ByteArray) (hI : IsHd w B g v h) (ho : HdOk h) (hst : h.started = false) (h0 : s.size = 0) (h2 : h.bytes + 2 ≤ 1024) (h4 : h.empty < 4) : Calls Tryz.prog 105 #[.pointer (some ⟨g, 0, none⟩), .string s] w (HdPost w B g v ({ h.more 0 with empty := h.empty + 1 }, 0)) := by
  have hbg := hI.bk
  have hgl := hbg.lt
  have hc := hbg.all
  have hz := hbg.fz
  have hby := ho.bytes
  have hem := ho.empty
  have HI := Lib.hid (And.intro hI ho)
  clear hI ho hbg
  have z1 : s.toList = [] := by rw [ByteArray.toList_eq]; exact List.eq_nil_of_length_eq_zero (by simpa using h0)
  have z2 : s.toList.isEmpty = true := by rw [z1]; rfl
  have i1 : ¬ (256 : Int) < (s.size : Int) := by omega
  have i2 : ¬ (1024 : Int) < (h.bytes : Int) + (s.size : Int) + 2 := by omega
  have i4 : ¬ (4 : Int) < (h.empty : Int) + 1 := by omega
  have H0 := Lib.hid h0
  clear h0
  go_enter Tryz.func105, Tryz.ntmps105
  go_wp2_with fail
  go_ret
  have hm := HI.out.1.more 0
  refine HdPost.one HI.out.1 rfl (((Sm.refl _ w).set1 14 _).set1 15 _) ?_
  rw [H0.out]
  refine (hm.bk.set 15 _).eq ?_
  rw [show (h.empty : Int) + 1 = ((h.empty + 1 : Nat) : Int) by omega]
  rfl
set_option maxRecDepth 100000 in
set_option maxHeartbeats 8000000 in
theorem hl_e1 (w : World) (B g : Nat) (v : Value) (h : Hd) (s : ByteArray) (hI : IsHd w B g v h) (ho : HdOk h) (hst : h.started = false) (h0 : s.size = 0) (h2 : h.bytes + 2 ≤ 1024) (h4 : ¬ h.empty < 4) : Calls Tryz.prog 105 #[.pointer (some ⟨g, 0, none⟩), .string s] w (HdPost w B g v ({ h.more 0 with empty := h.empty + 1 }, 400)) := by
  have hbg := hI.bk
  have hgl := hbg.lt
  have hc := hbg.all
  have hz := hbg.fz
  have hby := ho.bytes
  have hem := ho.empty
  have HI := Lib.hid (And.intro hI ho)
  clear hI ho hbg
  have z1 : s.toList = [] := by rw [ByteArray.toList_eq]; exact List.eq_nil_of_length_eq_zero (by simpa using h0)
  have z2 : s.toList.isEmpty = true := by rw [z1]; rfl
  have i1 : ¬ (256 : Int) < (s.size : Int) := by omega
  have i2 : ¬ (1024 : Int) < (h.bytes : Int) + (s.size : Int) + 2 := by omega
  have i4 : (4 : Int) < (h.empty : Int) + 1 := by omega
  have H0 := Lib.hid h0
  clear h0
  go_enter Tryz.func105, Tryz.ntmps105
  go_wp2_with fail
  go_ret
  have hm := HI.out.1.more 0
  refine HdPost.one HI.out.1 rfl (((Sm.refl _ w).set1 14 _).set1 15 _) ?_
  rw [H0.out]
  refine (hm.bk.set 15 _).eq ?_
  rw [show (h.empty : Int) + 1 = ((h.empty + 1 : Nat) : Int) by omega]
  rfl
set_option maxRecDepth 100000 in
set_option maxHeartbeats 8000000 in
theorem hl_start (w : World) (B g : Nat) (v : Value) (h : Hd) (s : ByteArray) (hI : IsHd w B g v h) (ho : HdOk h) (hst : h.started = false) (h0 : ¬ s.size = 0) (h1 : s.size ≤ 256) (h2 : h.bytes + s.size + 2 ≤ 1024) : Calls Tryz.prog 105 #[.pointer (some ⟨g, 0, none⟩), .string s] w (HdPost w B g v (startW (h.more s.size) (spcL (txt s)))) := by
  have hbg := hI.bk
  have hgl := hbg.lt
  have hc := hbg.all
  have hz := hbg.fz
  have hby := ho.bytes
  have hem := ho.empty
  have HI := Lib.hid (And.intro hI ho)
  clear hI ho hbg
  have z1 : ¬ s.toList = [] := by rw [ByteArray.toList_eq]; exact fun e => h0 (by have := congrArg List.length e; simpa using this)
  have z2 : s.toList.isEmpty = false := by
    cases h : s.toList with
    | nil => exact absurd h z1
    | cons => rfl
  have i1 : ¬ (256 : Int) < (s.size : Int) := by omega
  have i2 : ¬ (1024 : Int) < (h.bytes : Int) + (s.size : Int) + 2 := by omega
  go_enter Tryz.func105, Tryz.ntmps105
  go_wp2_with fail
  refine (rStart_any _ B g v (h.more s.size) s (HI.out.1.more s.size) h1).mono ?_
  rintro e w2 ⟨v', rfl, hp⟩
  have HP := Lib.hid hp
  clear hp hc hz
  go_wp2_with fail
  go_ret
  exact HdPost.base ⟨v', rfl, HP.out⟩ ((Sm.refl _ w).set1 14 _)
/-- Behind framing's Of. -/
def EndC (w : World) (k l : Int) (c x : Bool) (st : Int) (pv ev : Value) (wx : World) : Prop :=
  ∃ b, pv = .pointer (some ⟨b, 0, none⟩) ∧ w.heap.size ≤ b ∧ Sm No w wx ∧ ev = .int .i64 st ∧ Bk wx b 40 #[.int .i64 k, .int .i64 l, .bool c, .bool x]
theorem end_say {w : World} {B g : Nat} {v : Value} {h : Hd} {n : Nat} {k l : Int} {c x : Bool} {st : Int} (H : Hid (howW h.minor h.fields = (⟨k, l, c, x⟩, st))) (hI : IsHd w B g v (h.more n)) (ho : HdOk h) :
    Calls Tryz.prog 129 #[.int .i64 h.minor, .pointer (some ⟨g, 0, none⟩)] w fun e w' => e = .returned (.tuple #[.agg #[.int .i64 k, .int .i64 l, .bool c, .bool x], .int .i64 st]) ∧ Sm No w w' := by
  have H2 := rOf_any w B g v h.fields h.minor ho.minor hI ho.light
  rw [H.out] at H2
  exact H2.mono fun e w' h => ⟨h.2, h.1⟩
set_option maxRecDepth 100000 in
set_option maxHeartbeats 8000000 in
theorem hl_ends (w : World) (B g : Nat) (v : Value) (h : Hd) (s : ByteArray) (hI : IsHd w B g v h) (ho : HdOk h) (hst : h.started = true) (h0 : s.size = 0) (h2 : h.bytes + 2 ≤ 1024) : Calls Tryz.prog 105 #[.pointer (some ⟨g, 0, none⟩), .string s] w (HdPost w B g v ((h.more 0).ends, (howW h.minor h.fields).2)) := by
  have hbg := hI.bk
  have hgl := hbg.lt
  have hc := hbg.all
  have hz := hbg.fz
  have hby := ho.bytes
  have hem := ho.empty
  have HI := Lib.hid (And.intro hI ho)
  clear hI ho hbg
  have z1 : s.toList = [] := by rw [ByteArray.toList_eq]; exact List.eq_nil_of_length_eq_zero (by simpa using h0)
  have z2 : s.toList.isEmpty = true := by rw [z1]; rfl
  have i1 : ¬ (256 : Int) < (s.size : Int) := by omega
  have i2 : ¬ (1024 : Int) < (h.bytes : Int) + (s.size : Int) + 2 := by omega
  have H0 := Lib.hid h0
  clear h0
  obtain ⟨⟨k, l, c, x⟩, st, hhw⟩ : ∃ hk st, howW h.minor h.fields = (hk, st) := ⟨_, _, rfl⟩
  have HW := Lib.hid hhw
  rw [hhw]
  clear hhw
  obtain ⟨w1, hw1⟩ : ∃ w1, w.setCell ⟨g, 14, none⟩ (.int .i64 ((h.bytes : Int) + (s.size : Int) + 2)) = w1 := ⟨_, rfl⟩
  have hI1 : IsHd w1 B g v (h.more s.size) := by rw [← hw1]; exact HI.out.1.more s.size
  have hs1 : Sm (fun x => x = g) w w1 := by rw [← hw1]; exact (Sm.refl _ w).set1 14 _
  have HW1 := Lib.hid (And.intro hw1 (And.intro hI1 hs1))
  have hm1 := hI1.bk.at 6 (v := .int .i64 h.minor) rfl
  have hgl1 := hI1.bk.lt
  clear hw1 hI1 hs1
  go_enter Tryz.func105, Tryz.ntmps105
  go_upto_region 17 with fail
  rw [HW1.out.1]
  go_cut [6, 7] (fun p e wx => EndC w1 k l c x st p e wx)
  case first =>
    have hm1d : w1.drew.cell? ⟨g, 6, none⟩ = some (.int .i64 h.minor) := hm1
    go_region_held3 (fun w' => w'.cell? ⟨g, 6, none⟩ = some (.int .i64 h.minor)) (first | with_reducible exact hm1 | with_reducible exact hm1d | with_reducible exact r3 | with_reducible exact ((Sm.refl No w1).alloc _).drew.cell hgl1 hm1 | with_reducible exact (hs5.alloc _).cell hgl1 hm1 | with_reducible exact (((((hs5.alloc _).setN hs5.size 0 _).setN hs5.size 1 _).setN hs5.size 2 _).setN hs5.size 3 _).cell hgl1 hm1 | with_reducible exact ((((hs6.setN (Nat.le_refl _) 0 _).setN (Nat.le_refl _) 1 _).setN (Nat.le_refl _) 2 _).setN (Nat.le_refl _) 3 _).cell hgl1 hm1)
      (first
        | (go_at_call 129; (with_reducible refine (end_say HW (HW1.out.2.1.no (Sm.refl No w1).drew) HI.out.2).mono ?_); rintro e w4 ⟨rfl, hs4⟩; have hs5 := (Sm.refl No w1).drew.trans hs4 (fun _ _ h => h); have r3 := hs5.cell hgl1 hm1)
        | (go_at_call 129; (with_reducible refine (end_say HW (HW1.out.2.1.no ((Sm.refl No w1).alloc _).drew) HI.out.2).mono ?_); rintro e w4 ⟨rfl, hs4⟩; have hs6 := ((Sm.refl No w1).alloc _).drew.trans hs4 (fun _ _ h => h); have hb6 : Bk w4 w1.heap.size 40 #[.int .i64 0, .int .i64 0, .bool false, .bool false] := (Bk.new w1 _ _).drew.sm hs4 (fun h => h); have hl6 := hb6.lt; have hc6 := hb6.all; have hz6 := hb6.fz; have r3 := hs6.cell hgl1 hm1))
    · go_wp2_with fail
      go_meet
      exact ⟨_, rfl, hs5.size, hs5.alloc _, rfl, Bk.new w4 _ _⟩
    · go_wp2_with fail
      go_meet
      exact ⟨_, rfl, Nat.le_refl _, (((hs6.setN (Nat.le_refl _) 0 _).setN (Nat.le_refl _) 1 _).setN (Nat.le_refl _) 2 _).setN (Nat.le_refl _) 3 _, rfl, (((hb6.set 0 _).set 1 _).set 2 _).set 3 _⟩
  case rest =>
    obtain ⟨b, rfl, hb1, hs2, rfl, hbt⟩ := hcut
    have hI2 := HW1.out.2.1.no hs2
    have hbg := hI2.bk
    have hne : b ≠ g := by omega
    have hgl2 := hbg.lt
    have hbl2 := hbt.lt
    have hcg := hbg.all
    have hzg := hbg.fz
    have hcb := hbt.all
    have HG := Lib.hid (And.intro hbg (And.intro hI2 hs2))
    clear hbg hI2 hs2 hbt hc hz hm1
    by_cases h0 : st = 0
    · subst h0
      go_wp2_with fail
      go_ret
      refine HdPost.one HI.out.1 rfl ((HW1.out.2.2.trans (HG.out.2.2.any _) (fun _ _ e => e)).trans (((((((Sm.refl _ wc).set1 7 _).set1 8 _).set1 9 _).set1 10 _).set1 12 _)) (fun _ _ e => e)) ((((((HG.out.1.set 7 _).set 8 _).set 9 _).set 10 _).set 12 _).eq ?_)
      unfold Hd.ends
      rw [show (h.more 0).minor = h.minor from rfl, show (h.more 0).fields = h.fields from rfl, HW.out, H0.out]
      rfl
    · have e0 : (st == 0) = false := by simp [h0]
      have HS0 := Lib.hid h0
      clear h0
      go_wp2_with fail
      go_ret
      refine HdPost.one HI.out.1 rfl ((HW1.out.2.2.trans (HG.out.2.2.any _) (fun _ _ e => e)).trans (((((((Sm.refl _ wc).set1 7 _).set1 8 _).set1 9 _).set1 10 _).set1 12 _)) (fun _ _ e => e)) ((((((HG.out.1.set 7 _).set 8 _).set 9 _).set 10 _).set 12 _).eq ?_)
      unfold Hd.ends
      rw [show (h.more 0).minor = h.minor from rfl, show (h.more 0).fields = h.fields from rfl, HW.out, H0.out]
      have e : decide (st = 0) = false := decide_eq_false HS0.out
      dsimp only
      rw [e]
      rfl
theorem parseL_bd {l n v : Txt} {e : Int} (h : parseL l = (e, n, v)) : n.length + v.length ≤ l.length := by
  unfold parseL at h
  split at h
  · injection h with _ h; injection h with h1 h2; subst h1 h2; simp
  · split at h
    · injection h with _ h; injection h with h1 h2; subst h1 h2; simp
    · split at h
      · injection h with _ h
        injection h with h1 h2
        rw [← h1, ← h2]
        have := trimL_le (l.drop ((Lib.indexByte l 58).toNat + 1))
        rw [List.length_drop] at this
        rw [List.length_take]
        omega
      · injection h with _ h; injection h with h1 h2; subst h1 h2; simp
/-- Behind Add. -/
def FldC (w : World) (B g : Nat) (v : Value) (h : Hd) (c : Int) (fs : List Fld) (ev : Value) (wx : World) : Prop :=
  ∃ v', ev = .int .i64 c ∧ IsHd wx B g v' { h with fields := fs } ∧ Sm (TouchF g v) w wx ∧ Follows w v v'
theorem add_say {w : World} {B g : Nat} {v : Value} {h : Hd} {nB vB : ByteArray} {fs : List Fld} {n c : Int} (hI : IsHd w B g v h) (hlen : h.fields.length ≤ 24) (hn : nB.size ≤ 256) (hv : vB.size ≤ 256) (hB : B ≤ w.heap.size)
    (h1 : (addL h.fields [(nB, vB)]).1 = fs) (h2 : ((addL h.fields [(nB, vB)]).2.1 : Int) = n) (h3 : (addL h.fields [(nB, vB)]).2.2 = c) :
    Calls Tryz.prog 52 #[.pointer (some ⟨g, 0, none⟩), .slice (some ⟨w.heap.size, 0, none⟩) 1 1] ((w.alloc (.cells #[.string nB, .string vB] 65)).drew) fun e w' => e = .returned (.tuple #[.int .i64 n, .int .i64 c]) ∧ FldC w B g v h c fs (.int .i64 c) w' := by
  have hs : Sm No w ((w.alloc (.cells #[.string nB, .string vB] 65)).drew) := ((Sm.refl No w).alloc _).drew
  have hb : Bk ((w.alloc (.cells #[.string nB, .string vB] 65)).drew) w.heap.size 65 #[.string nB, .string vB] := (Bk.new w _ _).drew
  have hgl := hI.bk.lt
  have hvl := fun b e => (World.ownsRow.lt hI.2.1 b e).2
  refine (rAddQ_any _ B g v h.fields [(nB, vB)] (some ⟨w.heap.size, 0, none⟩) 1 (hI.no hs) hlen (fun k hk => ?_) (fun _ a ha => ?_) (fun x hx => ?_) (by simp) (Nat.le_trans hB hs.size)).mono ?_
  · have e : k = 0 := by simpa using hk
    subst e
    exact ⟨w.heap.size, 0, rfl, hb.lt, hb.at 0 rfl, hb.at 1 rfl⟩
  · injection ha with ha
    subst ha
    rintro (e | e)
    · exact absurd e (Nat.ne_of_gt hgl)
    · exact absurd (hvl _ e) (Nat.lt_irrefl _)
  · have e : x = (nB, vB) := by simpa using hx
    subst e
    exact ⟨Nat.le_trans hn (by decide), Nat.le_trans hv (by decide)⟩
  · rintro e w' ⟨v', rfl, g1, g2, g3, g4⟩
    rw [h1] at g1
    refine ⟨by rw [h2, h3], v', rfl, g1, (hs.any _).trans g3 (fun _ _ h => h), ?_⟩
    rcases g4 with g4 | ⟨b, g4, g5⟩
    · exact Or.inl g4
    · exact Or.inr ⟨b, g4, Nat.le_trans hs.size g5⟩
set_option maxRecDepth 100000 in
set_option maxHeartbeats 8000000 in
theorem hl_fld (w : World) (B g : Nat) (v : Value) (h : Hd) (s : ByteArray) (hI : IsHd w B g v h) (ho : HdOk h) (hst : h.started = true) (h0 : ¬ s.size = 0) (h1 : s.size ≤ 256) (h2 : h.bytes + s.size + 2 ≤ 1024) (hB : B ≤ w.heap.size) :
    Calls Tryz.prog 105 #[.pointer (some ⟨g, 0, none⟩), .string s] w (HdPost w B g v (fldW (h.more s.size) (txt s))) := by
  have hbg := hI.bk
  have hgl := hbg.lt
  have hc := hbg.all
  have hz := hbg.fz
  have hby := ho.bytes
  have hem := ho.empty
  have HI := Lib.hid (And.intro hI ho)
  clear hI ho hbg
  have z1 : ¬ s.toList = [] := by rw [ByteArray.toList_eq]; exact fun e => h0 (by have := congrArg List.length e; simpa using this)
  have z2 : s.toList.isEmpty = false := by
    cases h : s.toList with
    | nil => exact absurd h z1
    | cons => rfl
  have i1 : ¬ (256 : Int) < (s.size : Int) := by omega
  have i2 : ¬ (1024 : Int) < (h.bytes : Int) + (s.size : Int) + 2 := by omega
  obtain ⟨P, hP⟩ : ∃ P, parseL (txt s) = P := ⟨_, rfl⟩
  obtain ⟨pe, pn, pv⟩ := P
  obtain ⟨nB, hnB⟩ : ∃ nB : ByteArray, (⟨pn.toArray⟩ : ByteArray) = nB := ⟨_, rfl⟩
  obtain ⟨vB, hvB⟩ : ∃ vB : ByteArray, (⟨pv.toArray⟩ : ByteArray) = vB := ⟨_, rfl⟩
  have HP := rParse_any s (by omega)
  have hP' : parseL s.data.toList = (pe, pn, pv) := hP
  rw [hP', show parseV (pe, pn, pv) = .tuple #[.agg #[.string nB, .string vB], .int .i64 pe] from by rw [← hnB, ← hvB]; rfl] at HP
  have HP := Lib.hid HP
  have hfl := parseL_bd hP
  have hnz : nB.size ≤ 256 := by rw [← hnB]; show pn.toArray.size ≤ _; simp; rw [txt_len] at hfl; omega
  have hvz : vB.size ≤ 256 := by rw [← hvB]; show pv.toArray.size ≤ _; simp; rw [txt_len] at hfl; omega
  obtain ⟨R, hR⟩ : ∃ R, fldW (h.more s.size) (txt s) = R := ⟨_, rfl⟩
  have HE := Lib.hid (show R = if pe ≠ 0 then (h.more s.size, 400) else ({ h.more s.size with fields := (addL h.fields [(nB, vB)]).1 }, if (addL h.fields [(nB, vB)]).2.2 ≠ 0 then 431 else 0) from by
    rw [← hR]
    unfold fldW
    rw [hP]
    dsimp only
    rw [hnB, hvB]
    rfl)
  rw [hR]
  obtain ⟨w1, hw1⟩ : ∃ w1, w.setCell ⟨g, 14, none⟩ (.int .i64 ((h.bytes : Int) + (s.size : Int) + 2)) = w1 := ⟨_, rfl⟩
  have hI1 : IsHd w1 B g v (h.more s.size) := by rw [← hw1]; exact HI.out.1.more s.size
  have hs1 : Sm (fun x => x = g) w w1 := by rw [← hw1]; exact (Sm.refl _ w).set1 14 _
  have HW1 := Lib.hid (And.intro hw1 (And.intro hI1 hs1))
  have hgl1 := hI1.bk.lt
  have hc1 := hI1.bk.all
  have hz1 := hI1.bk.fz
  clear hw1 hI1 hs1 hP hP' hnB hvB hfl hR
  go_enter Tryz.func105, Tryz.ntmps105
  go_upto_region 21 with fail
  rw [HW1.out.1]
  clear hc hz
  go_wp2_with fail
  refine (HP.out _).mono ?_
  rintro e w2 ⟨rfl, hs2⟩
  have HI2 := Lib.hid (And.intro (HW1.out.2.1.no hs2) hs2)
  clear hs2
  by_cases h0 : pe = 0
  · subst h0
    have HE0 := Lib.hid (HE.out.trans (if_neg (by simp)))
    obtain ⟨b8, hb8⟩ : ∃ b8, w2.heap.size = b8 := ⟨_, rfl⟩
    obtain ⟨w3, hw3⟩ : ∃ w3, w2.alloc (.cells #[.string nB, .string vB] 65) = w3 := ⟨_, rfl⟩
    have hs3 : Sm No w1 w3 := by rw [← hw3]; exact HI2.out.2.alloc _
    have hb3 : Bk w3 b8 65 #[.string nB, .string vB] := by rw [← hw3, ← hb8]; exact Bk.new w2 _ _
    have hgl3 : g < w3.heap.size := Nat.lt_of_lt_of_le hgl1 hs3.size
    have hBw : B ≤ w3.heap.size := Nat.le_trans hB (Nat.le_trans HW1.out.2.2.size hs3.size)
    have HW3 := Lib.hid (And.intro hw3 (And.intro (HW1.out.2.1.no hs3) hs3))
    have HB8 := Lib.hid hb8
    have f0 := hb3.at 0 (v := .string nB) rfl
    have f1 := hb3.at 1 (v := .string vB) rfl
    have hl3 := hb3.lt
    have HHb3 := Lib.hid hb3
    clear hw3 hs3 hb3 hb8 hc1 hz1
    go_upto_region 24 with fail
    rw [HW3.out.1, HB8.out]
    obtain ⟨fs, hfs⟩ : ∃ fs, (addL h.fields [(nB, vB)]).1 = fs := ⟨_, rfl⟩
    obtain ⟨an, han⟩ : ∃ an, ((addL h.fields [(nB, vB)]).2.1 : Int) = an := ⟨_, rfl⟩
    obtain ⟨ac, hac⟩ : ∃ ac, (addL h.fields [(nB, vB)]).2.2 = ac := ⟨_, rfl⟩
    have HAdd := Lib.hid (add_say HW3.out.2.1 HI.out.2.len hnz hvz hBw hfs han hac)
    have HE1 := Lib.hid (show R = ({ h.more s.size with fields := fs }, if ac ≠ 0 then 431 else 0) from by rw [HE0.out, hfs, hac])
    have HNt := Lib.hid (show ¬ TouchF g v b8 from by
      have h1 := HW1.out.2.1.bk.lt
      have h2 := HI2.out.2.size
      have h3 := HB8.out
      rintro (e | e)
      · omega
      · have := (World.ownsRow.lt HW1.out.2.1.2.1 _ e).2
        omega)
    clear hfs han hac
    go_cut [9] (fun e wx => FldC w3 B g v (h.more s.size) ac fs e wx)
    case first =>
      go_region_held3 (fun w' => w'.cell? ⟨b8, 0, none⟩ = some (.string nB) ∧ w'.cell? ⟨b8, 1, none⟩ = some (.string vB)) (first | with_reducible exact ⟨f0, f1⟩ | with_reducible exact ⟨((Sm.refl No w3).alloc _).cell hl3 f0, ((Sm.refl No w3).alloc _).cell hl3 f1⟩ | with_reducible exact ⟨((Sm.refl No w3).drew.alloc _).cell hl3 f0, ((Sm.refl No w3).drew.alloc _).cell hl3 f1⟩ | with_reducible exact ⟨((Sm.refl No w3).alloc _).drew.cell hl3 f0, ((Sm.refl No w3).alloc _).drew.cell hl3 f1⟩ | with_reducible exact ⟨((Sm.refl No w3).drew).cell hl3 f0, ((Sm.refl No w3).drew).cell hl3 f1⟩ | with_reducible exact ⟨r5, r6⟩)
        ((go_at_call 52; refine HAdd.out.mono ?_; rintro e w5 ⟨rfl, h5⟩; have h6 := h5; obtain ⟨_, _, _, h7, _⟩ := h6; have r5 := h7.keep hl3 HNt.out f0; have r6 := h7.keep hl3 HNt.out f1))
      go_wp2_with fail
      go_meet
      exact h5
    case rest =>
      obtain ⟨v', rfl, hI5, hs5, hf5⟩ := hcut
      have H5 := Lib.hid (And.intro hI5 (And.intro hs5 hf5))
      have hsw : Sm (fun x => x = g) w w3 := HW1.out.2.2.trans (HW3.out.2.2.any _) (fun _ _ e => e)
      have HFin := Lib.hid (fun (x : Int) (hx : (if ac ≠ 0 then (431 : Int) else 0) = x) => show HdPost w B g v R (.returned (.int .i64 x)) wc from
        HdPost.base ⟨v', by rw [HE1.out, hx], by rw [HE1.out]; exact H5.out.1, H5.out.2.1, H5.out.2.2⟩ hsw)
      clear hI5 hs5 hf5 hsw
      by_cases hz0 : ac = 0
      · subst hz0
        have HF := Lib.hid (HFin.out 0 (if_neg (by simp)))
        go_wp2_with fail
        go_ret
        exact HF.out
      · have e0 : (ac == 0) = false := by simp [hz0]
        have e1 : (ac != 0) = true := by simp [hz0]
        have HF := Lib.hid (HFin.out 431 (if_pos hz0))
        clear hz0
        go_wp2_with fail
        go_ret
        exact HF.out
  · have e0 : (pe == 0) = false := by simp [h0]
    have e1 : (pe != 0) = true := by simp [h0]
    have HE0 := Lib.hid (HE.out.trans (if_pos h0))
    clear h0
    go_wp2_with fail
    go_ret
    rw [HE0.out]
    exact HdPost.base (HdPost.no HW1.out.2.1 (HI2.out.2.alloc _)) HW1.out.2.2
end Go.Proofs.YtiglfbimijnpcaaGreatDoor

namespace Go.Proofs.YtiglfbimijnpcaaGreatDoor
open Go.RowKit Go.Proofs

theorem rline_any (w : World) (B g : Nat) (v : Value) (h : Hd) (s : ByteArray) (hI : IsHd w B g v h) (ho : HdOk h) (hB : B ≤ w.heap.size) :
    Calls Tryz.prog 105 #[.pointer (some ⟨g, 0, none⟩), .string s] w (HdPost w B g v (lineS h (txt s))) := by
  have hl := txt_len s
  have hz : txt s = [] ↔ s.size = 0 := ⟨fun e => by rw [← hl, e]; rfl, fun e => List.eq_nil_of_length_eq_zero (by omega)⟩
  have hem := ho.empty
  by_cases h1 : 256 < s.size
  · rw [show lineS h (txt s) = (h, h.long) from by unfold lineS; rw [if_pos (by omega)]]
    cases hst : h.started with
    | true => rw [show h.long = 431 from by unfold Hd.long; rw [if_pos hst]]; exact hl_long_true w B g v h s hI ho hst h1
    | false => rw [show h.long = 414 from by unfold Hd.long; rw [if_neg (by rw [hst]; decide)]]; exact hl_long_false w B g v h s hI ho hst h1
  by_cases h2 : 1024 < h.bytes + s.size + 2
  · rw [show lineS h (txt s) = (h.more s.size, h.long) from by unfold lineS; rw [if_neg (by omega), hl, if_pos h2]]
    cases hst : h.started with
    | true => rw [show h.long = 431 from by unfold Hd.long; rw [if_pos hst]]; exact hl_over_true w B g v h s hI ho hst (by omega) h2
    | false => rw [show h.long = 414 from by unfold Hd.long; rw [if_neg (by rw [hst]; decide)]]; exact hl_over_false w B g v h s hI ho hst (by omega) h2
  cases hst : h.started with
  | false =>
    by_cases h0 : s.size = 0
    · by_cases h4 : 4 < h.empty + 1
      · rw [show lineS h (txt s) = ({ h.more 0 with empty := h.empty + 1 }, 400) from by unfold lineS; rw [if_neg (by omega), hl, if_neg h2, if_pos hst, if_pos (hz.2 h0), if_pos h4]]
        exact hl_e1 w B g v h s hI ho hst h0 (by omega) (by omega)
      · rw [show lineS h (txt s) = ({ h.more 0 with empty := h.empty + 1 }, 0) from by unfold lineS; rw [if_neg (by omega), hl, if_neg h2, if_pos hst, if_pos (hz.2 h0), if_neg h4]]
        exact hl_e0 w B g v h s hI ho hst h0 (by omega) (by omega)
    · rw [show lineS h (txt s) = startW (h.more s.size) (spcL (txt s)) from by unfold lineS; rw [if_neg (by omega), hl, if_neg h2, if_pos hst, if_neg (fun e => h0 (hz.1 e))]]
      exact hl_start w B g v h s hI ho hst h0 (by omega) (by omega)
  | true =>
    by_cases h0 : s.size = 0
    · rw [show lineS h (txt s) = ((h.more 0).ends, (howW h.minor h.fields).2) from by unfold lineS; rw [if_neg (by omega), hl, if_neg h2, if_neg (by rw [hst]; decide), if_pos (hz.2 h0)]]
      exact hl_ends w B g v h s hI ho hst h0 (by omega)
    · rw [show lineS h (txt s) = fldW (h.more s.size) (txt s) from by unfold lineS; rw [if_neg (by omega), hl, if_neg h2, if_neg (by rw [hst]; decide), if_neg (fun e => h0 (hz.1 e))]]
      exact hl_fld w B g v h s hI ho hst h0 (by omega) (by omega) hB

def LinePost (w : World) (B g : Nat) (v : Value) (h : Hd) (e : Ending) (w' : World) : Prop :=
  ∃ v', e = .returned (.tuple #[.bool h.whole, .int .i64 h.status]) ∧ IsHd w' B g v' h ∧ Sm (TouchF g v) w w' ∧ Follows w v v'
theorem Follows.own {w : World} {B g : Nat} {v v' : Value} {h : Hd} (hI : IsHd w B g v h) (hf : Follows w v v') : v'.ownBlock ≠ some g := by
  rcases hf with e | ⟨b, e, hb⟩
  · rw [e]; exact hI.2.2
  · rw [e]; intro h; injection h with h; have := hI.1.lt; omega
set_option maxRecDepth 100000 in
set_option maxHeartbeats 8000000 in
theorem rLine_any (w : World) (B g : Nat) (v : Value) (h : Hd) (s : ByteArray) (hI : IsHd w B g v h) (ho : HdOk h) (hB : B ≤ w.heap.size) (hw : h.whole = false) (hs0 : h.status = 0) :
    Calls Tryz.prog 71 #[.pointer (some ⟨g, 0, none⟩), .string s] w (LinePost w B g v (lineW h (txt s))) := by
  have HL := rline_any w B g v h s hI ho hB
  have hc := hI.bk.all
  obtain ⟨p, st, hp⟩ : ∃ p st, lineS h (txt s) = (p, st) := ⟨_, _, rfl⟩
  rw [hp] at HL
  rw [show lineW h (txt s) = { p with status := st } from by unfold lineW; rw [if_pos ⟨hw, hs0⟩, hp]]
  have HL := Lib.hid HL
  rw [hw, hs0] at hc
  clear hI ho hp hw hs0
  go_enter Tryz.func71, Tryz.ntmps71
  go_wp2_with fail
  refine HL.out.mono ?_
  rintro e w2 ⟨v', rfl, hI2, hs2, hf2⟩
  have hbg := hI2.bk
  have HI2 := Lib.hid (And.intro hI2 (And.intro hs2 hf2))
  obtain ⟨w3, hw3⟩ : ∃ w3, w2.setCell ⟨g, 13, none⟩ (.int .i64 st) = w3 := ⟨_, rfl⟩
  have hI3 : IsHd w3 B g v' { p with status := st } := by rw [← hw3]; exact hI2.of rfl ((Sm.refl _ w2).set1 13 _) ((hbg.set 13 _).eq rfl)
  have hs3 : Sm (TouchF g v) w w3 := by rw [← hw3]; exact hs2.setS (Or.inl rfl) 13 _
  have HW := Lib.hid (And.intro hw3 (And.intro hI3 (And.intro hs3 hf2)))
  have hgl := hbg.lt
  clear hc
  have hc := hbg.all
  have hz := hbg.fz
  have hb3 := hI3.bk
  have hc3 := hb3.all
  clear hI2 hs2 hf2 hbg hw3 hI3 hs3 hb3
  go_upto_region 3 with fail
  rw [HW.out.1]
  clear hc hz
  go_quiet (fail)
  go_wp2_with fail
  go_ret2
  exact ⟨v', rfl, HW.out.2.1.no ((Sm.refl No w3).drewN _), HW.out.2.2.1.drewN _, HW.out.2.2.2⟩
end Go.Proofs.YtiglfbimijnpcaaGreatDoor

namespace Go.Proofs.YtiglfbimijnpcaaGreatDoor
open Go.RowKit Go.Proofs

section
variable {ops : Array Oper} {rest : List Oper} {o : Oper} {a : Act} {w : World} {Q : Exit → Act → World → Prop}
/-- x = append(x, c). -/
theorem put_byte (hgd : o.guard = none) (s x : Operand) (ho : o.op = .call { callee := .builtin .append, args := #[s, x], argTypes := #[23, 23] })
    (c : UInt8) (v : Value) (l : Txt) (hs : a.eval s = v) (hO : OwnQ w 0 v l) (hx : a.eval x = .slice (some ⟨w.heap.size, 0, none⟩) 1 1) (hl : l.length ≤ 1000000)
    (h : ∀ v' w', OwnQ w' 0 v' (l ++ [c]) → Sm (fun b => v.ownBlock = some b) w w' → (∀ b, v'.ownBlock = some b → v.ownBlock = some b ∨ w.heap.size ≤ b) → wpList Tryz.prog ops Q rest (a.put o.dst v') w') :
    wpList Tryz.prog ops Q (o :: rest) a (w.alloc (.cells #[.int .u8 c.toNat] 5)) := by
  refine wpList_push hgd s x 23 5 ho Tryz.underlying23 _ 1 1 infoU8 rfl (by decide) (by decide) 0 _ v _ hs (World.ownsRow.alloc hO _) w.heap.size #[.int .u8 c.toNat] hx (Bk.new w _ _) rfl (by simp [Value.oneCell']) hl (Nat.zero_le _) ?_
  intro v' w' h1 h2 h3
  refine h v' w' (OwnQ.push h1 (n := 0) rfl) (((Sm.refl _ w).alloc _).trans h2 (fun _ _ e => e)) (fun b e => ?_)
  rcases h3 with h3 | h3
  · exact Or.inl (by rw [← h3]; exact e)
  · rw [h3] at e
    injection e with e
    right
    rw [← e]
    simp
end

/-- The blocks of something, and those that came since. -/
def Oup (O : Nat → Prop) (w w' : World) : Nat → Prop := fun x => O x ∨ (w.heap.size ≤ x ∧ x < w'.heap.size)
def RdP.st : RdP → Int
  | .size _ => 0
  | .data _ => 1
  | .tail _ => 2
  | .trail _ _ _ => 3
def RdP.line : RdP → Txt
  | .size l => l
  | .data _ => []
  | .tail k => [13].take k
  | .trail l _ _ => l
def RdP.ends : RdP → Nat
  | .trail _ e _ => e
  | _ => 0
def RdP.ts : RdP → List Fld
  | .trail _ _ ts => ts
  | _ => []
def RdP.leftOk : RdP → Int → Prop
  | .data n, left => left = n
  | _, _ => True
/-- The document's Reader at block g; its blocks are of O. -/
structure RdB (w : World) (O : Nat → Prop) (g : Nat) (vB vT vL : Value) (wh : Bool) (sta left : Int) (b : Txt) (st : Int) (L : Txt) (ends : Int) (ts : List Fld) : Prop where
  bk : Bk w g 150 #[vB, vT, .bool wh, .int .i64 sta, .int .i64 st, vL, .int .i64 left, .int .i64 ends]
  body : OwnQ w 0 vB b
  line : OwnQ w 0 vL L
  trail : w.ownsRow 0 65 2 vT ts.length (fldCells ts)
  apart : ∀ x, vB.ownBlock = some x → vL.ownBlock ≠ some x
  og : O g
  ob : ∀ x, vB.ownBlock = some x → O x
  ol : ∀ x, vL.ownBlock = some x → O x
  ot : ∀ x, vT.ownBlock = some x → O x
  lt : ∀ x, O x → x < w.heap.size
section
variable {w w' w5 : World} {O S : Nat → Prop} {g : Nat} {vB vT vL vB' vL' v' : Value} {wh wh' : Bool} {sta left sta' left' st st' ends ends' : Int} {b L L' : Txt} {ts : List Fld} {c : UInt8}
theorem RdB.sm (h : RdB w O g vB vT vL wh sta left b st L ends ts) (hs : Sm S w w') (hS : ∀ x, O x → ¬ S x) : RdB w' O g vB vT vL wh sta left b st L ends ts :=
  ⟨h.bk.sm hs (hS g h.og), own_row_sm h.body hs (fun x e => hS x (h.ob x e)), own_row_sm h.line hs (fun x e => hS x (h.ol x e)), own_row_sm h.trail hs (fun x e => hS x (h.ot x e)), h.apart, h.og, h.ob, h.ol, h.ot, fun x hx => Nat.lt_of_lt_of_le (h.lt x hx) hs.size⟩
theorem RdB.no (h : RdB w O g vB vT vL wh sta left b st L ends ts) (hs : Sm No w w') : RdB w' O g vB vT vL wh sta left b st L ends ts := h.sm hs (fun _ _ e => e)
theorem Oup.lt (h : ∀ x, O x → x < w.heap.size) (hs : w.heap.size ≤ w'.heap.size) : ∀ x, Oup O w w' x → x < w'.heap.size := by
  rintro x (e | ⟨_, e⟩)
  · exact Nat.lt_of_lt_of_le (h x e) hs
  · exact e
theorem RdB.neB (h : RdB w O g vB vT vL wh sta left b st L ends ts) : vB.ownBlock ≠ some g := own_not_bk h.body h.bk (by decide)
theorem RdB.neL (h : RdB w O g vB vT vL wh sta left b st L ends ts) : vL.ownBlock ≠ some g := own_not_bk h.line h.bk (by decide)
theorem RdB.neT (h : RdB w O g vB vT vL wh sta left b st L ends ts) : vT.ownBlock ≠ some g := own_not_bk h.trail h.bk (by decide)
theorem OwnQ.nil (w : World) (B : Nat) : OwnQ w B (.slice none 0 0) [] := World.ownsRow_nil _ _ _ _
/-- Its own block alone was written; the line may be nil since. -/
theorem RdB.upd (h : RdB w O g vB vT vL wh sta left b st L ends ts) (hs : Sm (fun x => x = g) w w') (hb : Bk w' g 150 #[vB, vT, .bool wh', .int .i64 sta', .int .i64 st', vL', .int .i64 left', .int .i64 ends'])
    (hL : (vL' = vL ∧ L' = L) ∨ (vL' = .slice none 0 0 ∧ L' = [])) : RdB w' (Oup O w w') g vB vT vL' wh' sta' left' b st' L' ends' ts ∧ Sm O w w' := by
  have n1 := h.neB
  have n2 := h.neL
  have n3 := h.neT
  have lt := Oup.lt h.lt hs.size
  refine ⟨?_, hs.mono (fun x _ e => e ▸ h.og)⟩
  have k1 : ∀ v : Value, v.ownBlock ≠ some g → ∀ x, v.ownBlock = some x → ¬ (x = g) := fun v hv x e e2 => hv (e2 ▸ e)
  rcases hL with ⟨rfl, rfl⟩ | ⟨rfl, rfl⟩
  · exact ⟨hb, own_row_sm h.body hs (k1 _ n1), own_row_sm h.line hs (k1 _ n2), own_row_sm h.trail hs (k1 _ n3), h.apart, Or.inl h.og, fun x e => Or.inl (h.ob x e), fun x e => Or.inl (h.ol x e), fun x e => Or.inl (h.ot x e), lt⟩
  · exact ⟨hb, own_row_sm h.body hs (k1 _ n1), OwnQ.nil _ _, own_row_sm h.trail hs (k1 _ n3), fun x _ e => (by cases e), Or.inl h.og, fun x e => Or.inl (h.ob x e), fun x e => (by cases e), fun x e => Or.inl (h.ot x e), lt⟩
/-- A byte was put behind the body. -/
theorem RdB.putB (h : RdB w O g vB vT vL wh sta left b st L ends ts) (hO : OwnQ w5 0 v' (b ++ [c])) (hs5 : Sm (fun x => vB.ownBlock = some x) w w5) (hv : ∀ x, v'.ownBlock = some x → vB.ownBlock = some x ∨ w.heap.size ≤ x)
    (hs : Sm (fun x => x = g) w5 w') (hb : Bk w' g 150 #[v', vT, .bool wh', .int .i64 sta', .int .i64 st', vL', .int .i64 left', .int .i64 ends'])
    (hL : (vL' = vL ∧ L' = L) ∨ (vL' = .slice none 0 0 ∧ L' = [])) : RdB w' (Oup O w w') g v' vT vL' wh' sta' left' (b ++ [c]) st' L' ends' ts ∧ Sm O w w' := by
  have n1 := h.neB
  have n2 := h.neL
  have n3 := h.neT
  have hgl := h.bk.lt
  have hbg5 := h.bk.sm hs5 n1
  have n4 : v'.ownBlock ≠ some g := own_not_bk hO hbg5 (by decide)
  have lt := Oup.lt h.lt (Nat.le_trans hs5.size hs.size)
  have k1 : ∀ v : Value, v.ownBlock ≠ some g → ∀ x, v.ownBlock = some x → ¬ (x = g) := fun v hv x e e2 => hv (e2 ▸ e)
  have kT : ∀ x, vT.ownBlock = some x → ¬ (vB.ownBlock = some x) := fun x e e2 => by
    obtain ⟨c1, h1⟩ := own_type h.trail e
    obtain ⟨c2, h2⟩ := own_type h.body e2
    rw [h1] at h2
    injection h2 with h2
    injection h2 with _ h2
    exact absurd h2 (by decide)
  have hw : Sm O w w' := (hs5.mono (fun x _ e => h.ob x e)).trans hs (fun x _ e => e ▸ h.og)
  have own : ∀ x, v'.ownBlock = some x → x < w'.heap.size := fun x e => Nat.lt_of_lt_of_le (World.ownsRow.lt hO x e).2 hs.size
  have ob' : ∀ x, v'.ownBlock = some x → Oup O w w' x := fun x e => (hv x e).elim (fun e2 => Or.inl (h.ob x e2)) (fun e2 => Or.inr ⟨e2, own x e⟩)
  refine ⟨?_, hw⟩
  rcases hL with ⟨rfl, rfl⟩ | ⟨rfl, rfl⟩
  · refine ⟨hb, own_row_sm hO hs (k1 _ n4), own_row_sm (own_row_sm h.line hs5 (fun x e e2 => h.apart x e2 e)) hs (k1 _ n2), own_row_sm (own_row_sm h.trail hs5 kT) hs (k1 _ n3), fun x e e2 => ?_, Or.inl h.og, ob', fun x e => Or.inl (h.ol x e), fun x e => Or.inl (h.ot x e), lt⟩
    rcases hv x e with e3 | e3
    · exact h.apart x e3 e2
    · have := (World.ownsRow.lt h.line x e2).2; omega
  · exact ⟨hb, own_row_sm hO hs (k1 _ n4), OwnQ.nil _ _, own_row_sm (own_row_sm h.trail hs5 kT) hs (k1 _ n3), fun x _ e => (by cases e), Or.inl h.og, ob', fun x e => (by cases e), fun x e => Or.inl (h.ot x e), lt⟩
/-- A byte was put behind the line. -/
theorem RdB.putL (h : RdB w O g vB vT vL wh sta left b st L ends ts) (hO : OwnQ w5 0 v' (L ++ [c])) (hs5 : Sm (fun x => vL.ownBlock = some x) w w5) (hv : ∀ x, v'.ownBlock = some x → vL.ownBlock = some x ∨ w.heap.size ≤ x)
    (hs : Sm (fun x => x = g) w5 w') (hb : Bk w' g 150 #[vB, vT, .bool wh', .int .i64 sta', .int .i64 st', vL', .int .i64 left', .int .i64 ends'])
    (hL : (vL' = v' ∧ L' = L ++ [c]) ∨ (vL' = .slice none 0 0 ∧ L' = [])) : RdB w' (Oup O w w') g vB vT vL' wh' sta' left' b st' L' ends' ts ∧ Sm O w w' := by
  have n1 := h.neB
  have n2 := h.neL
  have n3 := h.neT
  have hbg5 := h.bk.sm hs5 n2
  have n4 : v'.ownBlock ≠ some g := own_not_bk hO hbg5 (by decide)
  have lt := Oup.lt h.lt (Nat.le_trans hs5.size hs.size)
  have k1 : ∀ v : Value, v.ownBlock ≠ some g → ∀ x, v.ownBlock = some x → ¬ (x = g) := fun v hv x e e2 => hv (e2 ▸ e)
  have kT : ∀ x, vT.ownBlock = some x → ¬ (vL.ownBlock = some x) := fun x e e2 => by
    obtain ⟨c1, h1⟩ := own_type h.trail e
    obtain ⟨c2, h2⟩ := own_type h.line e2
    rw [h1] at h2
    injection h2 with h2
    injection h2 with _ h2
    exact absurd h2 (by decide)
  have hw : Sm O w w' := (hs5.mono (fun x _ e => h.ol x e)).trans hs (fun x _ e => e ▸ h.og)
  have own : ∀ x, v'.ownBlock = some x → x < w'.heap.size := fun x e => Nat.lt_of_lt_of_le (World.ownsRow.lt hO x e).2 hs.size
  have ol' : ∀ x, v'.ownBlock = some x → Oup O w w' x := fun x e => (hv x e).elim (fun e2 => Or.inl (h.ol x e2)) (fun e2 => Or.inr ⟨e2, own x e⟩)
  refine ⟨?_, hw⟩
  rcases hL with ⟨rfl, rfl⟩ | ⟨rfl, rfl⟩
  · refine ⟨hb, own_row_sm (own_row_sm h.body hs5 (fun x e e2 => h.apart x e e2)) hs (k1 _ n1), own_row_sm hO hs (k1 _ n4), own_row_sm (own_row_sm h.trail hs5 kT) hs (k1 _ n3), fun x e e2 => ?_, Or.inl h.og, fun x e => Or.inl (h.ob x e), ol', fun x e => Or.inl (h.ot x e), lt⟩
    rcases hv x e2 with e3 | e3
    · exact h.apart x e e3
    · have := (World.ownsRow.lt h.body x e).2; omega
  · exact ⟨hb, own_row_sm (own_row_sm h.body hs5 (fun x e e2 => h.apart x e e2)) hs (k1 _ n1), OwnQ.nil _ _, own_row_sm (own_row_sm h.trail hs5 kT) hs (k1 _ n3), fun x _ e => (by cases e), Or.inl h.og, fun x e => Or.inl (h.ob x e), fun x e => (by cases e), fun x e => Or.inl (h.ot x e), lt⟩
end
/-- Where a Reader is, in memory. -/
def RdQ (w : World) (O : Nat → Prop) (g : Nat) (vB : Value) : RdS → Prop
  | .at b p => ∃ vT vL left, RdB w O g vB vT vL false 0 left b p.st p.line p.ends p.ts ∧ p.leftOk left
  | .whole b => ∃ vT vL left st L ends ts, RdB w O g vB vT vL true 0 left b st L ends ts
  | .bad s => ∃ vT vL left b st L ends ts, RdB w O g vB vT vL false s left b st L ends ts
def RdPost (w : World) (O : Nat → Prop) (g : Nat) (q : RdS) (e : Ending) (w' : World) : Prop :=
  ∃ vB, e = .returned (.tuple #[]) ∧ RdQ w' (Oup O w w') g vB q ∧ Sm O w w'
end Go.Proofs.YtiglfbimijnpcaaGreatDoor

namespace Go.Proofs.YtiglfbimijnpcaaGreatDoor
open Go.RowKit Go.Proofs

theorem digit_say {c : UInt8} {d : Int} (h : Hid (hexD c = d)) (w : World) : Calls Tryz.prog 181 #[.int .u8 c.toNat] w fun e w' => e = .returned (.int .i64 d) ∧ w = w' := by
  rw [← h.out]; exact rDigit_any c w
theorem hex_say {s : ByteArray} {a : Int} {b : Bool} (h : Hid (numH (txt s) = (a, b))) (hs : s.size ≤ 1000000) (w : World) : Calls Tryz.prog 182 #[.string s] w fun e w' => e = .returned (.tuple #[.int .i64 a, .bool b]) ∧ w = w' := by
  have := rHex_any s hs w
  rw [h.out] at this
  exact this
theorem numH_bd (l : Txt) (h : l.length ≤ 6) : 0 ≤ (numH l).1 ∧ (numH l).1 ≤ 16777216 := by
  unfold numH numL
  split
  · decide
  · split
    · rename_i n hn
      obtain ⟨a, b⟩ := numF_bd (Or.inr rfl) (k := 0) hn (by decide) (by decide)
      refine ⟨a, ?_⟩
      have : (16 : Int) ^ (0 + l.length) ≤ 16 ^ 6 := by exact_mod_cast Nat.pow_le_pow_right (by decide) (by omega)
      have e : (16 : Int) ^ 6 = 16777216 := by decide
      show n ≤ _
      omega
    · decide
theorem sizeW_len {b s : Txt} (h : (hexP s).length < 1 ∨ 6 < (hexP s).length) : sizeW b s = .bad 400 := by unfold sizeW; rw [if_pos h]
theorem sizeW_par {b s : Txt} (h : ¬ ((hexP s).length < 1 ∨ 6 < (hexP s).length)) (h2 : paramsL (s.drop (hexP s).length) = none) : sizeW b s = .bad 400 := by unfold sizeW; rw [if_neg h, if_pos h2]
theorem sizeW_end {b s : Txt} (h : ¬ ((hexP s).length < 1 ∨ 6 < (hexP s).length)) (h2 : paramsL (s.drop (hexP s).length) ≠ none) : sizeW b s =
    if 2048 < (b.length : Int) + (numH (hexP s)).1 then .bad 413 else if (numH (hexP s)).1 = 0 then .at b (.trail [] 0 []) else .at b (.data (numH (hexP s)).1.toNat) := by unfold sizeW; rw [if_neg h, if_neg h2]
theorem RdB.mono {w w3 w' : World} {O : Nat → Prop} {g : Nat} {vB vT vL vB' vT' vL' : Value} {wh wh' : Bool} {sta left sta' left' st st' ends ends' : Int} {b b' L L' : Txt} {ts ts' : List Fld}
    (h : RdB w' (Oup O w3 w') g vB' vT' vL' wh' sta' left' b' st' L' ends' ts') (hs : Sm No w w3) (_ : RdB w O g vB vT vL wh sta left b st L ends ts) : RdB w' (Oup O w w') g vB' vT' vL' wh' sta' left' b' st' L' ends' ts' := by
  have k : ∀ x, Oup O w3 w' x → Oup O w w' x := fun x e => e.elim Or.inl (fun e => Or.inr ⟨Nat.le_trans hs.size e.1, e.2⟩)
  have lt : ∀ x, Oup O w w' x → x < w'.heap.size := by
    rintro x (e | ⟨_, e⟩)
    · exact h.lt x (Or.inl e)
    · exact e
  exact ⟨h.bk, h.body, h.line, h.trail, h.apart, k _ h.og, fun x e => k x (h.ob x e), fun x e => k x (h.ol x e), fun x e => k x (h.ot x e), lt⟩
set_option maxRecDepth 100000 in
set_option maxHeartbeats 16000000 in
theorem rSize_any (w : World) (O : Nat → Prop) (g : Nat) (vB vT vL : Value) (left : Int) (b : Txt) (s : ByteArray) (hI : RdB w O g vB vT vL false 0 left b 0 [] 0 []) (hb : b.length ≤ 2048) (hs : s.size ≤ 1000) :
    Calls Tryz.prog 155 #[.pointer (some ⟨g, 0, none⟩), .string s] w (RdPost w O g (sizeW b (txt s))) := by
  have HI := Lib.hid hI
  have hgl := hI.bk.lt
  obtain ⟨R, hR⟩ : ∃ R, sizeW b (txt s) = R := ⟨_, rfl⟩
  rw [hR]
  have HR := Lib.hid hR
  clear hI hR
  have HBad := Lib.hid (fun (w2 : World) (hs2 : Sm No w w2) (c : Int) (hc : R = .bad c) => show RdPost w O g R (.returned (.tuple #[])) (w2.setCell ⟨g, 3, none⟩ (.int .i64 c)) from by
    have h := (HI.out.no hs2).upd ((Sm.refl _ w2).set1 3 (.int .i64 c)) ((((HI.out.no hs2).bk.set 3 _)).eq rfl) (Or.inl ⟨rfl, rfl⟩)
    refine ⟨vB, rfl, ?_, (hs2.any _).trans h.2 (fun _ _ e => e)⟩
    rw [hc]
    exact ⟨_, _, _, _, _, _, _, _, h.1.mono hs2 HI.out⟩)
  go_enter Tryz.func155, Tryz.ntmps155
  obtain ⟨K, hK⟩ : ∃ K, (hexP (txt s)).length = K := ⟨_, rfl⟩
  have HKK := Lib.hid hK
  have hKz : K ≤ s.size := by
    rw [← hK]
    have h := (List.takeWhile_prefix hexYes (l := txt s)).length_le
    rw [txt_len] at h
    exact h
  clear hK
  go_upto_block 0 with fail
  go_cut [4] (fun i wx => wx = w ∧ i = .int .i64 K)
  case first =>
    go_wp2_with fail
    go_loop [4] (fun i => PreRel hexYes s i) (fun i => s.size - (intOf i).toNat)
    case atStart => exact ⟨0, Nat.zero_le _, rfl, by simp⟩
    case round =>
      obtain ⟨k, hk, rfl, hall⟩ := hrel
      have HA := Lib.hid hall
      clear hall
      have hkl : k ≤ s.data.toList.length := by rw [← size_toList']; exact hk
      have hk1 : (k : Int) ≤ (s.size : Int) := by omega
      by_cases hgo : ∃ h : k < s.size, hexYes s[k] = true
      · obtain ⟨hlt, hf⟩ := hgo
        have HN := Lib.hid (pre_step HA.out hlt hf)
        obtain ⟨d, hd⟩ : ∃ d, hexD s[k] = d := ⟨_, rfl⟩
        have hd0 : 0 ≤ d := by unfold hexYes at hf; rw [hd] at hf; exact of_decide_eq_true hf
        have HD := Lib.hid hd
        have i1 : (k : Int) < (s.size : Int) := by omega
        clear hf hd
        go_wp2_with fail
        refine (digit_say HD _).mono ?_
        rintro e w1 ⟨rfl, rfl⟩
        go_wp2_with fail
        exact ⟨⟨k + 1, by omega, by go_num, HN.out⟩, by simp [intOf]; omega⟩
      · have hW := while_take (p := hexYes) hkl HA.out (fun h => by
          have hlt : k < s.size := by rw [size_toList']; exact h
          cases hc : hexYes s.data.toList[k] with
          | false => rfl
          | true => exact absurd ⟨hlt, hc⟩ hgo)
        have hn : (hexP (txt s)).length = k := by
          have := congrArg List.length hW
          rw [List.length_take] at this
          unfold hexP txt
          omega
        have HKn := Lib.hid (HKK.out.symm.trans hn)
        have hways : k = s.size ∨ ∃ h : k < s.size, hexD s[k] < 0 := by
          by_cases hlt : k < s.size
          · refine Or.inr ⟨hlt, ?_⟩
            have h2 : ¬ hexYes s[k] = true := fun e => hgo ⟨hlt, e⟩
            unfold hexYes at h2
            simpa using h2
          · exact Or.inl (by omega)
        clear hW hn hgo hkl
        rcases hways with he | ⟨hlt, hd⟩
        · obtain rfl : s.size = k := he.symm
          go_wp2_with fail
          go_meet
          exact ⟨rfl, by rw [HKn.out]⟩
        · obtain ⟨d, hd2⟩ : ∃ d, hexD s[k] = d := ⟨_, rfl⟩
          rw [hd2] at hd
          have HD := Lib.hid hd2
          have i1 : (k : Int) < (s.size : Int) := by omega
          have i2 : ¬ (0 : Int) ≤ d := by omega
          clear hd2 hd
          go_wp2_with fail
          refine (digit_say HD _).mono ?_
          rintro e w1 ⟨rfl, rfl⟩
          go_wp2_with fail
          go_meet
          exact ⟨rfl, by rw [HKn.out]⟩
  case rest =>
    obtain ⟨hwc, rfl⟩ := hcut
    subst hwc
    have hbg := HI.out.bk
    have hcg := hbg.all
    have hzg := hbg.fz
    clear hbg
    by_cases h1 : K < 1
    · have i1 : (K : Int) < 1 := by omega
      have HE := Lib.hid (HBad.out wc (Sm.refl _ _) 400 (by rw [← HR.out, sizeW_len (Or.inl (by rw [HKK.out]; exact h1))]))
      clear h1
      go_wp2_with fail
      go_end0
      exact HE.out
    by_cases h6 : 6 < K
    · have i1 : ¬ (K : Int) < 1 := by omega
      have i2 : (6 : Int) < (K : Int) := by omega
      have HE := Lib.hid (HBad.out wc (Sm.refl _ _) 400 (by rw [← HR.out, sizeW_len (Or.inr (by rw [HKK.out]; exact h6))]))
      clear h1 h6
      go_wp2_with fail
      go_end0
      exact HE.out
    have i1 : ¬ (K : Int) < 1 := by omega
    have i2 : ¬ (6 : Int) < (K : Int) := by omega
    have i3 : (K : Int) ≤ (s.size : Int) := by omega
    have HNo := Lib.hid (show ¬ ((hexP (txt s)).length < 1 ∨ 6 < (hexP (txt s)).length) from by rw [HKK.out]; omega)
    obtain ⟨pB, hpB⟩ : ∃ pB, s.extract 0 K = pB := ⟨_, rfl⟩
    have hpt : txt pB = hexP (txt s) := by
      rw [← hpB, txt_extract, List.drop_zero, ← HKK.out]
      exact (List.prefix_iff_eq_take.1 (List.takeWhile_prefix hexYes)).symm
    have hpz : pB.size ≤ 6 := by rw [← hpB, ByteArray.size_extract]; omega
    obtain ⟨qB, hqB⟩ : ∃ qB, s.extract K s.size = qB := ⟨_, rfl⟩
    have hqt : txt qB = (txt s).drop (hexP (txt s)).length := by rw [HKK.out, ← hqB, txt_dropE]
    have hqz : qB.size ≤ 1000 := by rw [← hqB, ByteArray.size_extract]; omega
    have HPQ := Lib.hid (And.intro hpB hqB)
    obtain ⟨n, ok, hno⟩ : ∃ n ok, numH (txt pB) = (n, ok) := ⟨_, _, rfl⟩
    have hnb := numH_bd (txt pB) (by rw [txt_len]; exact hpz)
    rw [hno] at hnb
    have hnn : (numH (hexP (txt s))).1 = n := by rw [← hpt, hno]
    have HN := Lib.hid hno
    have HNn := Lib.hid hnn
    have HPa := rParams_any qB (by omega) wc
    unfold ParamsPost at HPa
    have e : qB.data.toList = (txt s).drop (hexP (txt s)).length := hqt
    rw [e] at HPa
    have HPa := Lib.hid HPa
    dsimp only at hnb
    clear hpB hpt hqB hqt hno hnn h1 h6 e
    go_wp2_with fail
    rw [HPQ.out.1]
    refine (hex_say HN (by omega) _).mono ?_
    rintro e w2 ⟨rfl, rfl⟩
    go_wp2_with fail
    rw [HPQ.out.2]
    refine HPa.out.mono ?_
    rintro e w3 (⟨r, v, hr, rfl, hO, _, hs3⟩ | ⟨hr, rfl, hs3⟩)
    · have HEnd := Lib.hid ((sizeW_end HNo.out (b := b) (by rw [hr]; exact fun h => by cases h)).symm.trans HR.out)
      have HS3 := Lib.hid hs3
      have hbg := (HI.out.no hs3).bk
      have hbv := (HI.out.no hs3).body
      obtain ⟨A, c, hAc, _⟩ := own_rowC hbv
      have HAc := Lib.hid hAc
      subst hAc
      clear hr hO hcg hzg
      have hcg := hbg.all
      have hzg := hbg.fz
      have hgl3 := hbg.lt
      have HBg := Lib.hid hbg
      clear hbg hbv hs3
      by_cases hbig : 2048 < (b.length : Int) + n
      · have HE := Lib.hid (HBad.out w3 HS3.out 413 (by rw [← HEnd.out, HNn.out, if_pos hbig]))
        go_wp2_with fail
        go_end0
        exact HE.out
      · have HE1 := Lib.hid (show R = if n = 0 then .at b (.trail [] 0 []) else .at b (.data n.toNat) from by rw [← HEnd.out, HNn.out, if_neg hbig])
        by_cases hn0 : n = 0
        · have HE2 := Lib.hid (show R = .at b (.trail [] 0 []) from by rw [HE1.out, if_pos hn0])
          subst hn0
          go_wp2_with fail
          go_end0
          have h := (HI.out.no HS3.out).upd ((Sm.refl _ w3).set1 4 (.int .i64 3)) (((HBg.out.set 4 _)).eq rfl) (Or.inl ⟨rfl, rfl⟩)
          refine ⟨.slice A b.length c, rfl, ?_, (HS3.out.any _).trans h.2 (fun _ _ e => e)⟩
          rw [HE2.out]
          exact ⟨_, _, _, h.1.mono HS3.out HI.out, trivial⟩
        · have e0 : (n == 0) = false := by simp [hn0]
          have HE2 := Lib.hid (HE1.out.trans (if_neg hn0))
          have HN0 := Lib.hid hn0
          clear hn0
          go_wp2_with fail
          go_end0
          have h := (HI.out.no HS3.out).upd (((Sm.refl _ w3).set1 4 (.int .i64 1)).set1 6 (.int .i64 n)) ((((HBg.out.set 4 _)).set 6 _).eq rfl) (Or.inl ⟨rfl, rfl⟩)
          refine ⟨.slice A b.length c, rfl, ?_, (HS3.out.any _).trans h.2 (fun _ _ e => e)⟩
          rw [HE2.out]
          exact ⟨_, _, _, h.1.mono HS3.out HI.out, by show n = ((n.toNat : Nat) : Int); omega⟩
    · have HE := Lib.hid (HBad.out w3 hs3 400 (by rw [← HR.out, sizeW_par HNo.out hr]))
      have hbg := (HI.out.no hs3).bk
      clear hr hcg hzg
      have hcg := hbg.all
      have hzg := hbg.fz
      have hgl3 := hbg.lt
      clear hbg hs3
      go_wp2_with fail
      go_end0
      exact HE.out
end Go.Proofs.YtiglfbimijnpcaaGreatDoor

namespace Go.Proofs.YtiglfbimijnpcaaGreatDoor
open Go.RowKit Go.Proofs

section
variable {w w' w5 : World} {O : Nat → Prop} {g : Nat} {vB vT vL v' : Value} {wh wh' : Bool} {sta left sta' left' st st' ends ends' : Int} {b L : Txt} {ts : List Fld} {x : Fld}
/-- A field was put behind the trailers. -/
theorem RdB.putT (h : RdB w O g vB vT vL wh sta left b st L ends ts) (hO : w5.ownsRow 0 65 2 v' (ts ++ [x]).length (fldCells (ts ++ [x]))) (hs5 : Sm (fun x => vT.ownBlock = some x) w w5) (hv : ∀ x, v'.ownBlock = some x → vT.ownBlock = some x ∨ w.heap.size ≤ x)
    (hs : Sm (fun x => x = g) w5 w') (hb : Bk w' g 150 #[vB, v', .bool wh', .int .i64 sta', .int .i64 st', vL, .int .i64 left', .int .i64 ends']) :
    RdB w' (Oup O w w') g vB v' vL wh' sta' left' b st' L ends' (ts ++ [x]) ∧ Sm O w w' := by
  have n1 := h.neB
  have n2 := h.neL
  have n3 := h.neT
  have hbg5 := h.bk.sm hs5 n3
  have n4 : v'.ownBlock ≠ some g := own_not_bk hO hbg5 (by decide)
  have lt := Oup.lt h.lt (Nat.le_trans hs5.size hs.size)
  have k1 : ∀ v : Value, v.ownBlock ≠ some g → ∀ x, v.ownBlock = some x → ¬ (x = g) := fun v hv x e e2 => hv (e2 ▸ e)
  have kT : ∀ (v : Value) (l : Txt), OwnQ w 0 v l → ∀ x, v.ownBlock = some x → ¬ (vT.ownBlock = some x) := fun v l hl x e2 e => by
    obtain ⟨c1, h1⟩ := own_type h.trail e
    obtain ⟨c2, h2⟩ := own_type hl e2
    rw [h1] at h2
    injection h2 with h2
    injection h2 with _ h2
    exact absurd h2 (by decide)
  have hw : Sm O w w' := (hs5.mono (fun x _ e => h.ot x e)).trans hs (fun x _ e => e ▸ h.og)
  have own : ∀ x, v'.ownBlock = some x → x < w'.heap.size := fun x e => Nat.lt_of_lt_of_le (World.ownsRow.lt hO x e).2 hs.size
  refine ⟨⟨hb, own_row_sm (own_row_sm h.body hs5 (kT _ _ h.body)) hs (k1 _ n1), own_row_sm (own_row_sm h.line hs5 (kT _ _ h.line)) hs (k1 _ n2), own_row_sm hO hs (k1 _ n4), h.apart, Or.inl h.og, fun x e => Or.inl (h.ob x e), fun x e => Or.inl (h.ol x e), fun x e => ?_, lt⟩, hw⟩
  exact (hv x e).elim (fun e2 => Or.inl (h.ot x e2)) (fun e2 => Or.inr ⟨e2, own x e⟩)
end
theorem Sm.up {O : Nat → Prop} {w w4 w' : World} (h : Sm O w w4) (k : Sm (Oup O w w4) w4 w') : Sm O w w' := h.trans k (fun x hx e => e.elim id (fun e => absurd hx (by omega)))
theorem Oup.up {O : Nat → Prop} {w w4 w' : World} (h : w.heap.size ≤ w4.heap.size) (h2 : w4.heap.size ≤ w'.heap.size) (x : Nat) (e : Oup (Oup O w w4) w4 w' x) : Oup O w w' x := by
  rcases e with (e | ⟨e1, e2⟩) | ⟨e1, e2⟩
  · exact Or.inl e
  · exact Or.inr ⟨e1, by omega⟩
  · exact Or.inr ⟨by omega, e2⟩
theorem RdB.imp {w : World} {O O2 : Nat → Prop} {g : Nat} {vB vT vL : Value} {wh : Bool} {sta left st ends : Int} {b L : Txt} {ts : List Fld}
    (h : RdB w O g vB vT vL wh sta left b st L ends ts) (k : ∀ x, O x → O2 x) (lt : ∀ x, O2 x → x < w.heap.size) : RdB w O2 g vB vT vL wh sta left b st L ends ts :=
  ⟨h.bk, h.body, h.line, h.trail, h.apart, k _ h.og, fun x e => k x (h.ob x e), fun x e => k x (h.ol x e), fun x e => k x (h.ot x e), lt⟩
theorem RdB.up {w w4 w' : World} {O : Nat → Prop} {g : Nat} {vB vT vL : Value} {wh : Bool} {sta left st ends : Int} {b L : Txt} {ts : List Fld} (h : RdB w' (Oup (Oup O w w4) w4 w') g vB vT vL wh sta left b st L ends ts) (hO : ∀ x, O x → x < w.heap.size) (h1 : w.heap.size ≤ w4.heap.size) (h2 : w4.heap.size ≤ w'.heap.size) :
    RdB w' (Oup O w w') g vB vT vL wh sta left b st L ends ts := h.imp (Oup.up h1 h2) (Oup.lt hO (Nat.le_trans h1 h2))
theorem trailW_bad {b s : Txt} {e : Nat} {ts : List Fld} (h0 : s ≠ []) (h : (parseL s).1 ≠ 0) : trailW b s e ts = .bad 400 := by unfold trailW; rw [if_neg h0, if_pos h]
theorem trailW_full {b s : Txt} {e : Nat} {ts : List Fld} (h0 : s ≠ []) (h : (parseL s).1 = 0) (h2 : ts.length = 8 ∨ 512 < e + s.length + 2) : trailW b s e ts = .bad 431 := by unfold trailW; rw [if_neg h0, if_neg (by rw [h]; decide), if_pos h2]
theorem trailW_end {b s : Txt} {e : Nat} {ts : List Fld} (h0 : s ≠ []) (h : (parseL s).1 = 0) (h2 : ¬ (ts.length = 8 ∨ 512 < e + s.length + 2)) : trailW b s e ts = .at b (.trail [] (e + s.length + 2) (ts ++ [(⟨(parseL s).2.1.toArray⟩, ⟨(parseL s).2.2.toArray⟩)])) := by unfold trailW; rw [if_neg h0, if_neg (by rw [h]; decide), if_neg h2]
set_option maxRecDepth 100000 in
set_option maxHeartbeats 16000000 in
theorem rTrailer_any (w : World) (O : Nat → Prop) (g : Nat) (vB vT vL : Value) (left : Int) (b : Txt) (e0 : Nat) (ts : List Fld) (s : ByteArray) (hI : RdB w O g vB vT vL false 0 left b 3 [] e0 ts) (hts : ts.length ≤ 8) (he : e0 ≤ 512) (hs : s.size ≤ 1000) :
    Calls Tryz.prog 156 #[.pointer (some ⟨g, 0, none⟩), .string s] w (RdPost w O g (trailW b (txt s) e0 ts)) := by
  have HI := Lib.hid hI
  have hgl := hI.bk.lt
  have hcg := hI.bk.all
  have hzg := hI.bk.fz
  obtain ⟨R, hR⟩ : ∃ R, trailW b (txt s) e0 ts = R := ⟨_, rfl⟩
  rw [hR]
  have HR := Lib.hid hR
  clear hI hR
  by_cases h0 : s.size = 0
  · have ht0 : txt s = [] := List.eq_nil_of_length_eq_zero (by rw [txt_len]; exact h0)
    have z1 : s.toList = [] := by rw [ByteArray.toList_eq]; exact ht0
    have z2 : s.toList.isEmpty = true := by rw [z1]; rfl
    have HW := Lib.hid (show R = .whole b from by rw [← HR.out]; unfold trailW; rw [if_pos ht0])
    clear h0 ht0
    go_enter Tryz.func156, Tryz.ntmps156
    go_wp2_with fail
    go_end0
    have h := HI.out.upd ((Sm.refl _ w).set1 2 (.bool true)) ((HI.out.bk.set 2 _).eq rfl) (Or.inl ⟨rfl, rfl⟩)
    refine ⟨vB, rfl, ?_, h.2⟩
    rw [HW.out]
    exact ⟨_, _, _, _, _, _, _, h.1⟩
  have ht0 : txt s ≠ [] := fun e => h0 (by rw [← txt_len, e]; rfl)
  have z1 : ¬ s.toList = [] := by rw [ByteArray.toList_eq]; exact ht0
  have z2 : s.toList.isEmpty = false := by
    cases h : s.toList with
    | nil => exact absurd h z1
    | cons => rfl
  obtain ⟨⟨pe, pn, pv⟩, hP⟩ : ∃ P, parseL (txt s) = P := ⟨_, rfl⟩
  obtain ⟨nB, hnB⟩ : ∃ nB : ByteArray, (⟨pn.toArray⟩ : ByteArray) = nB := ⟨_, rfl⟩
  obtain ⟨xB, hxB⟩ : ∃ xB : ByteArray, (⟨pv.toArray⟩ : ByteArray) = xB := ⟨_, rfl⟩
  have HP := rParse_any s (by omega)
  have hP' : parseL s.data.toList = (pe, pn, pv) := hP
  rw [hP', show parseV (pe, pn, pv) = .tuple #[.agg #[.string nB, .string xB], .int .i64 pe] from by rw [← hnB, ← hxB]; rfl] at HP
  have HP := Lib.hid HP
  have HPn := Lib.hid (show (parseL (txt s)).1 = pe ∧ (((⟨(parseL (txt s)).2.1.toArray⟩, ⟨(parseL (txt s)).2.2.toArray⟩) : Fld) = (nB, xB)) from by rw [hP, ← hnB, ← hxB]; exact ⟨rfl, rfl⟩)
  have HT0 := Lib.hid ht0
  clear hP hP' hnB hxB h0 ht0
  obtain ⟨At, ct, hAt, _⟩ := own_rowC HI.out.trail
  subst hAt
  go_enter Tryz.func156, Tryz.ntmps156
  go_wp2_with fail
  refine (HP.out _).mono ?_
  rintro e w2 ⟨rfl, hs2⟩
  obtain ⟨b4, hb4⟩ : ∃ b4, w2.heap.size = b4 := ⟨_, rfl⟩
  obtain ⟨w3, hw3⟩ : ∃ w3, w2.alloc (.cells #[.string nB, .string xB] 65) = w3 := ⟨_, rfl⟩
  have hs3 : Sm No w w3 := by rw [← hw3]; exact hs2.alloc _
  have hb3 : Bk w3 b4 65 #[.string nB, .string xB] := by rw [← hw3, ← hb4]; exact Bk.new w2 _ _
  have hne : b4 ≠ g := by have := hs2.size; omega
  have hI3 := HI.out.no hs3
  obtain ⟨w4, hw4⟩ : ∃ w4, w3.setCell ⟨g, 7, none⟩ (.int .i64 ((e0 : Int) + (s.size : Int) + 2)) = w4 := ⟨_, rfl⟩
  have h4 := hI3.upd ((Sm.refl _ w3).set1 7 (.int .i64 ((e0 : Int) + (s.size : Int) + 2))) ((hI3.bk.set 7 _).eq rfl) (Or.inl ⟨rfl, rfl⟩)
  rw [hw4] at h4
  have h4 := And.intro (h4.1.mono hs3 HI.out) ((hs3.any O).trans h4.2 (fun _ _ e => e))
  have hb4b : Bk w4 b4 65 #[.string nB, .string xB] := by rw [← hw4]; exact hb3.far hne _
  have H4 := Lib.hid (And.intro h4 (And.intro hb4b (And.intro hw3 (And.intro hw4 hb4))))
  have hcg4 := h4.1.bk.all
  have hzg4 := h4.1.bk.fz
  have hgl4 := h4.1.bk.lt
  have f0 := hb4b.at 0 (v := .string nB) rfl
  have f1 := hb4b.at 1 (v := .string xB) rfl
  have hl4 := hb4b.lt
  have hcg3 := hI3.bk.all
  have hzg3 := hI3.bk.fz
  have hgl3 := hI3.bk.lt
  have HBad := Lib.hid (fun (c : Int) (hc : R = .bad c) => show RdPost w O g R (.returned (.tuple #[])) (w4.setCell ⟨g, 3, none⟩ (.int .i64 c)) from by
    have h := H4.out.1.1.upd ((Sm.refl _ w4).set1 3 (.int .i64 c)) ((H4.out.1.1.bk.set 3 _).eq rfl) (Or.inl ⟨rfl, rfl⟩)
    refine ⟨vB, rfl, ?_, H4.out.1.2.up h.2⟩
    rw [hc]
    exact ⟨_, _, _, _, _, _, _, _, h.1.up HI.out.lt H4.out.1.2.size (by simp)⟩)
  clear hs2 hw3 hs3 hb3 hI3 hw4 h4 hb4b hcg hzg hb4
  go_upto_region 3 with fail
  rw [H4.out.2.2.1, H4.out.2.2.2.2]
  go_upto_region 5 with fail
  rw [H4.out.2.2.2.1]
  clear hcg3 hzg3 hgl3
  by_cases hp : pe = 0
  · subst hp
    by_cases h8 : ts.length = 8 ∨ 512 < e0 + s.size + 2
    · have HE := Lib.hid (HBad.out 431 (by rw [← HR.out, trailW_full HT0.out (by rw [HPn.out.1]) (by rw [txt_len]; exact h8)]))
      by_cases h9 : ts.length = 8
      · rw [h9] at hcg4
        clear h8 h9
        go_wp2_with fail
        go_end0
        exact HE.out
      · have h10 : 512 < e0 + s.size + 2 := h8.resolve_left h9
        have e1 : ((ts.length : Int) == 8) = false := by rw [beq_eq_false_iff_ne]; omega
        have e2 : (512 : Int) < (e0 : Int) + (s.size : Int) + 2 := by omega
        clear h8 h9 h10
        go_wp2_with fail
        go_end0
        exact HE.out
    · have e1 : ((ts.length : Int) == 8) = false := by rw [beq_eq_false_iff_ne]; omega
      have e2 : ¬ (512 : Int) < (e0 : Int) + (s.size : Int) + 2 := by omega
      have HE := Lib.hid (show R = .at b (.trail [] (e0 + s.size + 2) (ts ++ [(nB, xB)])) from by rw [← HR.out, trailW_end HT0.out (by rw [HPn.out.1]) (by rw [txt_len]; exact h8), HPn.out.2, txt_len])
      have htl : ts.length ≤ 1000000 := by omega
      have HOwn := Lib.hid ((H4.out.1.1.trail.alloc (.cells #[.string nB, .string xB] 65)).drew)
      have HBlk := Lib.hid (Bk.new w4 65 #[.string nB, .string xB]).drew
      have HKb := Lib.hid ((H4.out.1.1.bk.alloc (.cells #[.string nB, .string xB] 65)).drew)
      have HNe := Lib.hid (show ¬ (Value.slice At ts.length ct).ownBlock = some g from H4.out.1.1.neT)
      clear h8
      go_wp2_with fail
      go_region_law
        ((refine step_push (by rfl) _ _ 27 65 (by rfl) Tryz.underlying27 _ 2 32 infoFieldB rfl (by decide) (by decide) 0 ts.length _ (fldCells ts) (by rfl) HOwn.out w4.heap.size #[.string nB, .string xB] (by rfl) HBlk.out rfl (by simp [Value.oneCell']) htl (Nat.zero_le _) ?_; intro r cap w5 hown5 hs5 hr5; have hb5 := HKb.out.sm hs5 HNe.out; have hc5 := hb5.all; have hz5 := hb5.fz; have hl5 := hb5.lt))
      all_goals
        have HF := Lib.hid (H4.out.1.1.putT (x := (nB, xB)) (v' := .slice (some ⟨r, 0, none⟩) (ts.length + 1) cap) (by rw [fldCells_snoc, List.length_append]; exact hown5) ((((Sm.refl _ w4).alloc _).drew).trans hs5 (fun _ _ e => e)) (fun x e => by
          have e2 : r = x := by simpa [Value.ownBlock] using e
          rcases hr5 with e3 | e3
          · exact Or.inl (e3.trans (by rw [e2]))
          · right
            rw [← e2, e3]
            simp) ((Sm.refl _ w5).set1 1 _) ((hb5.set 1 _).eq rfl))
        go_wp2_with fail
        go_end0
        refine ⟨vB, rfl, ?_, H4.out.1.2.up HF.out.2⟩
        rw [HE.out]
        refine ⟨.slice (some ⟨r, 0, none⟩) (ts.length + 1) cap, vL, left, ?_, trivial⟩
        have hsz := HF.out.2.size
        have hh := HF.out.1.up HI.out.lt H4.out.1.2.size hsz
        rw [show ((RdP.trail [] (e0 + s.size + 2) (ts ++ [(nB, xB)])).ends : Int) = (e0 : Int) + (s.size : Int) + 2 from by show ((e0 + s.size + 2 : Nat) : Int) = _; omega]
        exact hh
  · have e0 : (pe == 0) = false := by simp [hp]
    have e1 : (pe != 0) = true := by simp [hp]
    have HE := Lib.hid (HBad.out 400 (by rw [← HR.out, trailW_bad HT0.out (by rw [HPn.out.1]; exact hp)]))
    clear hp
    go_wp2_with fail
    go_end0
    exact HE.out
end Go.Proofs.YtiglfbimijnpcaaGreatDoor

