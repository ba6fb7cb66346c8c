/- Responses in words and as values; those that say their status alone. -/
import Derived.Test.YtiglfbimijnpcaaGreatDoorQStatB
import Derived.Test.YtiglfbimijnpcaaGreatDoorQFieldK
import Derived.Test.YtiglfbimijnpcaaGreatDoorQB
import Derived.Test.YtiglfbimijnpcaaGreatDoorQR
import Derived.Lib.ItoaLen
namespace Go.Proofs.YtiglfbimijnpcaaGreatDoor
open Go.RowKit Go.Proofs

structure Rsp where
  st : Int
  fs : List Fld
  body : List UInt8
  parts : List Nat
def intsV (l : List Nat) : List Value := l.map fun (n : Nat) => .int .i64 n
/-- v is this response; its rows are the call's own, not before block B. -/
def RspV (w : World) (B : Nat) (v : Value) (r : Rsp) : Prop :=
  ∃ vF vB vP, v = .agg #[.int .i64 r.st, vF, vB, vP] ∧ ownsU w B 65 2 vF r.fs.length (fldCells r.fs) ∧ OwnB w B 5 vB r.body ∧ ownsU w B 3 1 vP r.parts.length (intsV r.parts)
theorem RspV.sm {S : Nat → Prop} {w w' : World} {B : Nat} {v : Value} {r : Rsp} (h : RspV w B v r) (hs : Sm S w w') (hS : ∀ b, S b → b < B) : RspV w' B v r := by
  obtain ⟨vF, vB, vP, h1, h2, h3, h4⟩ := h
  exact ⟨vF, vB, vP, h1, h2.sm hs (fun b hb hs => by have := (h2.lt b hb).1; have := hS b hs; omega), h3.sm hs (fun b hb hs => by have := (h3.lt b hb).1; have := hS b hs; omega), h4.sm hs (fun b hb hs => by have := (h4.lt b hb).1; have := hS b hs; omega)⟩
theorem RspV.no {w w' : World} {B : Nat} {v : Value} {r : Rsp} (h : RspV w B v r) (hs : Sm No w w') : RspV w' B v r := h.sm hs (fun _ h => h.elim)
theorem RspV.base {w : World} {B C : Nat} {v : Value} {r : Rsp} (h : RspV w B v r) (hC : C ≤ B) : RspV w C v r := by
  obtain ⟨vF, vB, vP, h1, h2, h3, h4⟩ := h
  exact ⟨vF, vB, vP, h1, h2.base (fun b hb => Nat.le_trans hC (h2.lt b hb).1), h3.base (fun b hb => Nat.le_trans hC (h3.lt b hb).1), h4.base (fun b hb => Nat.le_trans hC (h4.lt b hb).1)⟩
def RspPost (w : World) (r : Rsp) (e : Ending) (w' : World) : Prop := ∃ v, e = .returned v ∧ RspV w' w.heap.size v r ∧ Sm No w w'

def txtB (l : List UInt8) : ByteArray := ⟨l.toArray⟩
def sCT : List UInt8 := [67, 111, 110, 116, 101, 110, 116, 45, 84, 121, 112, 101]
def sPlain : List UInt8 := [116, 101, 120, 116, 47, 112, 108, 97, 105, 110]
def ctOf (kind : List UInt8) : Fld := (txtB sCT, txtB kind)
theorem itoa_len {c : Int} (h0 : 0 ≤ c) (h1 : c ≤ 9223372036854775807) : (Lib.itoa c).length ≤ 20 := by
  unfold Lib.itoa
  rw [if_neg (by omega), Lib.decDigits_length]
  exact Lib.nDigits_le20 _ (by omega)
theorem cannedB_len {c : Int} (h0 : 0 ≤ c) (h1 : c ≤ 9223372036854775807) : (⟨(Lib.itoa c ++ 32 :: (phraseT c ++ [10])).toArray⟩ : ByteArray).size ≤ maxLen := by
  show (Lib.itoa c ++ 32 :: (phraseT c ++ [10])).toArray.size ≤ _
  rw [List.size_toArray, List.length_append, List.length_cons, List.length_append]
  have := itoa_len h0 h1
  have := phraseT_len c
  unfold maxLen
  simp only [List.length_cons, List.length_nil]
  omega
theorem cannedT_eq (c : Int) : ((((⟨(Lib.itoa c).toArray⟩ : ByteArray) ++ ⟨#[32]⟩) ++ ⟨(phraseT c).toArray⟩) ++ ⟨#[10]⟩) = ⟨(Lib.itoa c ++ 32 :: (phraseT c ++ [10])).toArray⟩ := by
  apply ByteArray.ext
  simp
theorem cannedT_len {c : Int} (h0 : 0 ≤ c) (h1 : c ≤ 9223372036854775807) : ((((⟨(Lib.itoa c).toArray⟩ : ByteArray) ++ ⟨#[32]⟩) ++ ⟨(phraseT c).toArray⟩) ++ ⟨#[10]⟩).size ≤ maxLen := by
  rw [cannedT_eq]
  exact cannedB_len h0 h1
theorem join_none (xs : List (List UInt8)) : Lib.join xs [] = xs.flatten := by
  cases xs with
  | nil => rfl
  | cons x r =>
    rw [Lib.join_cons, List.flatten_cons]
    congr 1
    induction r with
    | nil => rfl
    | cons y r ih => simp [Lib.joinTail]
set_option maxRecDepth 100000 in
/-- Four texts, one behind the other. -/
theorem cat4_any (w : World) (a b c d : List UInt8) (ha : a.length ≤ 1000) (hb : b.length ≤ 1000) (hc : c.length ≤ 1000) (hd : d.length ≤ 1000) :
    Calls Tryz.prog 77 #[.slice (some ⟨w.heap.size, 0, none⟩) 4 4] (w.alloc (.cells #[.string ⟨a.toArray⟩, .string ⟨b.toArray⟩, .string ⟨c.toArray⟩, .string ⟨d.toArray⟩] 9)) fun e w' => e = .returned (.string ⟨(a ++ (b ++ (c ++ d))).toArray⟩) ∧ Sm No (w.alloc (.cells #[.string ⟨a.toArray⟩, .string ⟨b.toArray⟩, .string ⟨c.toArray⟩, .string ⟨d.toArray⟩] 9)) w' := by
  have hB := Bk.new w 9 #[.string ⟨a.toArray⟩, .string ⟨b.toArray⟩, .string ⟨c.toArray⟩, .string ⟨d.toArray⟩]
  have hJ := Tryz.strings_Join w.heap.size 0 4 [⟨a.toArray⟩, ⟨b.toArray⟩, ⟨c.toArray⟩, ⟨d.toArray⟩] ⟨#[]⟩ _ (fun j x hj => by
    rw [Nat.zero_add]
    refine hB.at j ?_
    match j, hj with
    | 0, hj | 1, hj | 2, hj | 3, hj => simpa using congrArg (Option.map Value.string) hj) hB.lt (by simp) (by simp) (by
    simp only [List.map_cons, List.map_nil]
    rw [join_none]
    simp
    omega)
  simp only [List.map_cons, List.map_nil] at hJ
  rw [join_none] at hJ
  have HJ := Lib.hid hJ
  clear hJ hB
  go_enter Tryz.func77, Tryz.ntmps77
  go_wp2_with fail
  refine HJ.out.mono ?_
  rintro e w2 ⟨rfl, hb2⟩
  have HS := Lib.hid (Sm.of_below hb2 No)
  clear hb2
  go_wp2_with fail
  go_ret
  exact ⟨by simp, HS.out⟩
/-- A response that says its status alone. -/
def cannedL (c : Int) (more : List Fld) : Rsp :=
  if noBodyB c = true then ⟨c, more, [], []⟩ else ⟨c, ctOf sPlain :: more, Lib.itoa c ++ 32 :: (phraseT c ++ [10]), []⟩
theorem infoF2 : (Tryz.prog.info? 65).map (fun i => (i.zero, i.size, i.bytes)) = some (some (.agg #[.string ⟨#[]⟩, .string ⟨#[]⟩]), 2, 32) := by kernel_rfl
theorem own_types_ne {w : World} {B C size size' n m : Nat} {t t' : TypeId} {v v' : Value} {xs ys : List Value} (h : w.ownsRow B t size v n xs) (h2 : ownsU w C t' size' v' m ys) (ht : t ≠ t') {b : Nat} (hb : v.ownBlock = some b) (hb2 : v'.ownBlock = some b) : (0 : Nat) ≠ 0 := by
  obtain ⟨cur, hc⟩ := own_type h hb
  rcases h2.2 with ⟨rfl, _⟩ | ⟨g, cap, cur2, fz, rfl, _, hh, _⟩
  · cases hb2
  · have : g = b := by simpa [Value.ownBlock] using hb2
    subst this
    rw [hc] at hh
    injection hh with hh
    injection hh with _ hh
    exact absurd hh ht
--CANNED
set_option maxRecDepth 100000 in
set_option maxHeartbeats 4000000 in
theorem canned_any (w : World) (hg : G1 w) (c : Int) (hc0 : 0 ≤ c) (hc1 : c ≤ 9223372036854775807) (A : Option Addr) (cap : Nat) (more : List Fld) (hA : FRow w A more) (hn : A = none → more.length = 0 ∧ cap = 0) (hm : more.length ≤ 100000) :
    Calls Tryz.prog 38 #[.int .i64 c, .slice A more.length cap] w (RspPost w (cannedL c more)) := by
  obtain ⟨b, hb⟩ : ∃ b, noBodyB c = b := ⟨_, rfl⟩
  have HNB := Lib.hid (show ∀ W, Calls Tryz.prog 76 #[.int .i64 c] W fun e w' => e = .returned (.bool b) ∧ w' = W from fun W => hb ▸ noBody_any W c)
  have HB := Lib.hid hb
  have HA := Lib.hid (And.intro hA.rowC hn)
  have HG := Lib.hid hg
  clear hb hA hn hg
  obtain ⟨R, hR⟩ : ∃ R, cannedL c more = R := ⟨_, rfl⟩
  rw [hR]
  have HR := Lib.hid hR
  clear hR
  go_enter Tryz.func38, Tryz.ntmps38
  go_wp2_with fail
  refine (HNB.out _).mono ?_
  rintro e w1 ⟨rfl, hw1⟩
  obtain ⟨r0, hr0⟩ : ∃ r0, w.heap.size = r0 := ⟨_, rfl⟩
  have hs1 : Sm No w w1 := by rw [hw1]; exact ((Sm.refl _ _).alloc _).alloc _
  have b0 : Bk w1 r0 52 #[.int .i64 0, .slice none 0 0, .slice none 0 0, .slice none 0 0] := by rw [hw1, ← hr0]; exact (Bk.new w _ _).alloc _
  have b1 : Bk w1 (r0 + 1) 52 #[.int .i64 c, .slice none 0 0, .slice none 0 0, .slice none 0 0] := by rw [hw1, ← hr0]; exact Bk.newAt _ _ _ (by simp)
  have hz1 : w1.heap.size = r0 + 2 := by rw [hw1, ← hr0]; simp
  rw [hr0]
  have c11 := b1.at 1 (v := .slice none 0 0) rfl
  have hl1 := b1.lt
  have H1 := Lib.hid (And.intro hs1 (And.intro b0 (And.intro b1 (And.intro hz1 hr0))))
  clear hs1 b0 b1 hz1 hw1 hr0
  cases b with
  | true =>
    have hRs : cannedL c more = ⟨c, [] ++ more, [], []⟩ := by unfold cannedL; rw [if_pos HB.out]; rfl
    have HRs := Lib.hid hRs
    have HW := Lib.hid (And.intro H1.out.2.1 (And.intro H1.out.2.2.1 (And.intro H1.out.1 (And.intro (show OwnB w1 (r0 + 2) 5 (.slice none 0 0) [] from ownsU.nil _ _ _ _) (by rw [H1.out.2.2.2.1]; exact Nat.le_refl (r0 + 2) : r0 + 2 ≤ w1.heap.size)))))
    clear hRs
    go_wp2_with (refine wpList_push_opt rfl _ _ 27 65 rfl Tryz.underlying27 _ 2 32 infoF2 rfl (by decide) (by decide) (r0 + 2) ([] : List Fld).length (.slice none 0 0) (fldCells []) rfl (World.ownsRow_nil w1 (r0 + 2) 65 2) A more.length cap (fldCells more) rfl HA.out.2 (fldCells_len _) (HA.out.1.no HW.out.2.2.1) (fldCells_one _) (by simp; omega) HW.out.2.2.2.2 ?_; intro v9 w9 hown9 hs9 hb9; refine RowKit.Hid.out ?_)
    refine Lib.hid ?_
    obtain ⟨A9, c9, hv9, _⟩ := own_rowC hown9
    obtain ⟨n9, hn9⟩ : ∃ n9, ([] : List Fld).length + more.length = n9 := ⟨_, rfl⟩
    rw [hn9] at hv9 hown9
    subst hv9
    have HN9 := Lib.hid hn9
    clear hn9
    have hge : ∀ b, Value.ownBlock (.slice none 0 0) = some b → r0 + 2 ≤ b := fun b e => (World.ownsRow.lt (World.ownsRow_nil w1 (r0 + 2) 65 2) b e).1
    have b0 := HW.out.1.sm hs9 (fun e => by have := hge _ e; omega)
    have b1 := HW.out.2.1.sm hs9 (fun e => by have := hge _ e; omega)
    have hsw : Sm No w w9 := HW.out.2.2.1.trans hs9 (fun b hb e => by have := hge b e; have := H1.out.2.2.2.2; omega)
    have hB9 := HW.out.2.2.2.1.sm hs9 (fun b e1 e2 => absurd rfl (own_types_ne (World.ownsRow_nil w1 (r0 + 2) 65 2) (HW.out.2.2.2.1) (by decide) e2 e1))
    have c10 := b1.at 0 (v := .int .i64 c) rfl
    have c11 := b1.at 1 (v := (.slice none 0 0)) rfl
    have c12 := b1.at 2 (v := (.slice none 0 0)) rfl
    have c13 := b1.at 3 (v := .slice none 0 0) rfl
    have c00 := b0.at 0 (v := .int .i64 0) rfl
    have c01 := b0.at 1 (v := .slice none 0 0) rfl
    have c02 := b0.at 2 (v := .slice none 0 0) rfl
    have c03 := b0.at 3 (v := .slice none 0 0) rfl
    have f11 := b1.fz 1
    have f00 := b0.fz 0
    have f01 := b0.fz 1
    have f02 := b0.fz 2
    have f03 := b0.fz 3
    have hl9 := b1.lt
    have hl0 := b0.lt
    have H9 := Lib.hid (And.intro hown9 (And.intro hsw hB9))
    clear hown9 hs9 hb9 b0 b1 hsw hB9 hge
    go_wp2_with fail
    have hr0 := H1.out.2.2.2.2
    have hS : Sm (fun b => b = r0 ∨ b = r0 + 1) w9 _ := ((((((Sm.refl _ w9).setS (Or.inr rfl) 1 (.slice A9 n9 c9)).setS (Or.inl rfl) 0 (.int .i64 c)).setS (Or.inl rfl) 1 (.slice A9 n9 c9)).setS (Or.inl rfl) 2 (.slice none 0 0)).setS (Or.inl rfl) 3 (.slice none 0 0))
    exact bodyPost_ret (v := .agg #[.int .i64 c, .slice A9 n9 c9, (.slice none 0 0), .slice none 0 0]) (by simp [results, Tryz.results38, go_sem, c00, c01, c02, c03]) rfl
      (by
        rw [← HR.out]
        refine ⟨_, rfl, ⟨.slice A9 n9 c9, (.slice none 0 0), .slice none 0 0, ?_, ?_, ?_, ?_⟩, H9.out.2.1.trans hS (fun b hb e => by omega)⟩
        · rw [HRs.out]
        · rw [HRs.out]
          show ownsU _ _ _ 2 (.slice A9 n9 c9) ([] ++ more : List Fld).length (fldCells ([] ++ more))
          rw [List.length_append, HN9.out, show fldCells ([] ++ more) = fldCells [] ++ fldCells more from by simp [fldCells]]
          exact ((ownsU.of H9.out.1).sm hS (fun b e1 e2 => by have := (World.ownsRow.lt H9.out.1 b e1).1; omega)).base (fun b e1 => by have := (World.ownsRow.lt H9.out.1 b e1).1; omega)
        · rw [HRs.out]
          exact (H9.out.2.2.sm hS (fun b e1 e2 => by have := (H9.out.2.2.lt b e1).1; omega)).base (fun b e1 => by have := (H9.out.2.2.lt b e1).1; omega)
        · rw [HRs.out]
          exact ownsU.nil _ _ _ _)
  | false =>
    have hRs : cannedL c more = ⟨c, [ctOf sPlain] ++ more, Lib.itoa c ++ 32 :: (phraseT c ++ [10]), []⟩ := by unfold cannedL; rw [if_neg (by rw [HB.out]; decide)]; rfl
    have HRs := Lib.hid hRs
    clear hRs
    go_wp2_with (refine wpList_push rfl _ _ 27 65 rfl Tryz.underlying27 _ 2 32 infoF2 rfl (by decide) (by decide) (r0 + 2) 0 (.slice none 0 0) [] rfl (World.ownsRow_nil _ _ _ _) w1.heap.size #[.string (txtB sCT), .string (txtB sPlain)] rfl (Bk.new w1 _ _) rfl (by simp [Value.oneCell']) (by omega) (by rw [← H1.out.2.2.2.1]; simp) ?_; intro v2 w2 hown2 hs2 hb2; refine RowKit.Hid.out ?_)
    refine Lib.hid ?_
    obtain ⟨A2, c2, rfl, _⟩ := own_rowC hown2
    have hge : ∀ b, (Value.slice A2 (0 + 1) c2).ownBlock = some b → r0 + 2 ≤ b := fun b e => (World.ownsRow.lt hown2 b e).1
    have hs12 : Sm No w1 w2 := ((Sm.refl No w1).alloc _).trans hs2 (fun _ _ h => by cases h)
    have b0 := H1.out.2.1.sm hs12 (fun h => h)
    have b1 := H1.out.2.2.1.sm hs12 (fun h => h)
    have hl2 := b1.lt
    have c11 := b1.at 1 (v := .slice none 0 0) rfl
    have f11 := b1.fz 1
    have hs3 := (Sm.refl (fun b => b = r0 + 1) w2).set1 1 (.slice A2 (0 + 1) c2)
    have b03 := b0.sm hs3 (fun e => by omega)
    have b13 := (b1.set 1 (.slice A2 (0 + 1) c2)).eq (by rfl : _ = #[.int .i64 c, .slice A2 (0 + 1) c2, .slice none 0 0, .slice none 0 0])
    have hown3 := own_row_sm hown2 hs3 (fun b e1 e2 => by have := hge b e1; omega)
    have hsw3 : Sm No w (w2.setCell ⟨r0 + 1, 1, none⟩ (.slice A2 (0 + 1) c2)) := (H1.out.1.trans hs12 (fun _ _ h => h)).setN (by have := H1.out.2.2.2.2; omega) _ _
    have H3 := Lib.hid (And.intro b03 (And.intro b13 (And.intro hown3 (And.intro hsw3 hge))))
    clear hown2 hs2 hb2 hs12 b0 b1 hs3 b03 b13 hown3 hsw3 hge
    go_wp2_with fail
    refine (dec_any _ (HG.out.no H3.out.2.2.2.1) c hc0 hc1).mono ?_
    rintro e w4 ⟨rfl, hs4⟩
    unfold strV
    have H4 := Lib.hid (And.intro (H3.out.1.sm hs4 (fun h => h)) (And.intro (H3.out.2.1.sm hs4 (fun h => h)) (And.intro (own_row_sm H3.out.2.2.1 hs4 (fun _ _ h => h)) (H3.out.2.2.2.1.trans hs4 (fun _ _ h => h)))))
    clear hs4 c11 f11
    go_wp2_with fail
    refine (phrase_any _ c).mono ?_
    rintro e w5 ⟨rfl, rfl⟩
    unfold strV
    go_wp2_with fail
    refine (cat4_any w5 (Lib.itoa c) [32] (phraseT c) [10] (Nat.le_trans (itoa_len hc0 hc1) (by decide)) (by decide) (Nat.le_trans (phraseT_len c) (by decide)) (by decide)).mono ?_
    rintro e w5b ⟨rfl, hs5⟩
    have hs5 := ((Sm.refl No w5).alloc (.cells #[.string ⟨(Lib.itoa c).toArray⟩, .string ⟨#[32]⟩, .string ⟨(phraseT c).toArray⟩, .string ⟨#[10]⟩] 9)).trans hs5 (fun _ _ h => h)
    have H5 := Lib.hid (And.intro (H4.out.1.sm hs5 (fun h => h)) (And.intro (H4.out.2.1.sm hs5 (fun h => h)) (And.intro (own_row_sm H4.out.2.2.1 hs5 (fun _ _ h => h)) (H4.out.2.2.2.trans hs5 (fun _ _ h => h)))))
    clear hs5
    go_wp2_with (refine wpList_bytes_own rfl 9 23 5 _ rfl _ rfl Tryz.underlying9 Tryz.underlying23 Tryz.underlying5 (r0 + 2) (by have := H5.out.2.1.lt; omega) (cannedB_len hc0 hc1) ?_; intro cB w6 hOB hsB hzB; refine RowKit.Hid.out ?_)
    refine Lib.hid ?_
    obtain ⟨gB, hgB⟩ : ∃ gB, w5b.heap.size = gB := ⟨_, rfl⟩
    rw [hgB] at hOB ⊢
    clear hzB hgB
    have hsz : (⟨(Lib.itoa c ++ 32 :: (phraseT c ++ [10])).toArray⟩ : ByteArray).size = (Lib.itoa c).length + ((phraseT c).length + 1 + 1) := by simp [ByteArray.size]
    obtain ⟨nB, hnB⟩ : ∃ nB, (Lib.itoa c).length + ((phraseT c).length + 1 + 1) = nB := ⟨_, rfl⟩
    rw [hsz, hnB] at hOB
    rw [hnB]
    clear hnB hsz
    have b0 := H5.out.1.sm hsB (fun h => h)
    have b1 := H5.out.2.1.sm hsB (fun h => h)
    have hl5 := b1.lt
    have c12 := b1.at 2 (v := .slice none 0 0) rfl
    have f12 := b1.fz 2
    have hs6 := (Sm.refl (fun b => b = r0 + 1) w6).set1 2 (.slice (some ⟨gB, 0, none⟩) nB cB)
    have b06 := b0.sm hs6 (fun e => by omega)
    have b16 := (b1.set 2 (.slice (some ⟨gB, 0, none⟩) nB cB)).eq (by rfl : _ = #[.int .i64 c, .slice A2 (0 + 1) c2, .slice (some ⟨gB, 0, none⟩) nB cB, .slice none 0 0])
    have hown6 := own_row_sm (own_row_sm H5.out.2.2.1 hsB (fun _ _ h => h)) hs6 (fun b e1 e2 => by have := H3.out.2.2.2.2 b e1; omega)
    have hB6 := hOB.sm hs6 (fun b e1 e2 => by have := (hOB.lt b e1).1; omega)
    have hsw6 : Sm No w (w6.setCell ⟨r0 + 1, 2, none⟩ (.slice (some ⟨gB, 0, none⟩) nB cB)) := (H5.out.2.2.2.trans hsB (fun _ _ h => h)).setN (by have := H1.out.2.2.2.2; omega) _ _
    have c11 := b16.at 1 (v := .slice A2 (0 + 1) c2) rfl
    have hz6 : r0 + 2 ≤ (w6.setCell ⟨r0 + 1, 2, none⟩ (.slice (some ⟨gB, 0, none⟩) nB cB)).heap.size := by have := b16.lt; omega
    have HW := Lib.hid (And.intro b06 (And.intro b16 (And.intro hsw6 (And.intro hB6 hz6))))
    have H8 := Lib.hid (And.intro trivial hown6)
    clear hsB b0 b1 hs6 b06 b16 hown6 hB6 hsw6 hOB hz6
    go_wp2_with (refine wpList_push_opt rfl _ _ 27 65 rfl Tryz.underlying27 _ 2 32 infoF2 rfl (by decide) (by decide) (r0 + 2) ([ctOf sPlain] : List Fld).length (.slice A2 (0 + 1) c2) (fldCells [ctOf sPlain]) rfl H8.out.2 A more.length cap (fldCells more) rfl HA.out.2 (fldCells_len _) (HA.out.1.no HW.out.2.2.1) (fldCells_one _) (by simp; omega) HW.out.2.2.2.2 ?_; intro v9 w9 hown9 hs9 hb9; refine RowKit.Hid.out ?_)
    refine Lib.hid ?_
    obtain ⟨A9, c9, hv9, _⟩ := own_rowC hown9
    obtain ⟨n9, hn9⟩ : ∃ n9, ([ctOf sPlain] : List Fld).length + more.length = n9 := ⟨_, rfl⟩
    rw [hn9] at hv9 hown9
    subst hv9
    have HN9 := Lib.hid hn9
    clear hn9
    have hge : ∀ b, Value.ownBlock (.slice A2 (0 + 1) c2) = some b → r0 + 2 ≤ b := fun b e => (World.ownsRow.lt H8.out.2 b e).1
    have b0 := HW.out.1.sm hs9 (fun e => by have := hge _ e; omega)
    have b1 := HW.out.2.1.sm hs9 (fun e => by have := hge _ e; omega)
    have hsw : Sm No w w9 := HW.out.2.2.1.trans hs9 (fun b hb e => by have := hge b e; have := H1.out.2.2.2.2; omega)
    have hB9 := HW.out.2.2.2.1.sm hs9 (fun b e1 e2 => absurd rfl (own_types_ne H8.out.2 (HW.out.2.2.2.1) (by decide) e2 e1))
    have c10 := b1.at 0 (v := .int .i64 c) rfl
    have c11 := b1.at 1 (v := (.slice A2 (0 + 1) c2)) rfl
    have c12 := b1.at 2 (v := (.slice (some ⟨gB, 0, none⟩) nB cB)) rfl
    have c13 := b1.at 3 (v := .slice none 0 0) rfl
    have c00 := b0.at 0 (v := .int .i64 0) rfl
    have c01 := b0.at 1 (v := .slice none 0 0) rfl
    have c02 := b0.at 2 (v := .slice none 0 0) rfl
    have c03 := b0.at 3 (v := .slice none 0 0) rfl
    have f11 := b1.fz 1
    have f00 := b0.fz 0
    have f01 := b0.fz 1
    have f02 := b0.fz 2
    have f03 := b0.fz 3
    have hl9 := b1.lt
    have hl0 := b0.lt
    have H9 := Lib.hid (And.intro hown9 (And.intro hsw hB9))
    clear hown9 hs9 hb9 b0 b1 hsw hB9 hge
    go_wp2_with fail
    have hr0 := H1.out.2.2.2.2
    have hS : Sm (fun b => b = r0 ∨ b = r0 + 1) w9 _ := ((((((Sm.refl _ w9).setS (Or.inr rfl) 1 (.slice A9 n9 c9)).setS (Or.inl rfl) 0 (.int .i64 c)).setS (Or.inl rfl) 1 (.slice A9 n9 c9)).setS (Or.inl rfl) 2 (.slice (some ⟨gB, 0, none⟩) nB cB)).setS (Or.inl rfl) 3 (.slice none 0 0))
    exact bodyPost_ret (v := .agg #[.int .i64 c, .slice A9 n9 c9, (.slice (some ⟨gB, 0, none⟩) nB cB), .slice none 0 0]) (by simp [results, Tryz.results38, go_sem, c00, c01, c02, c03]) rfl
      (by
        rw [← HR.out]
        refine ⟨_, rfl, ⟨.slice A9 n9 c9, (.slice (some ⟨gB, 0, none⟩) nB cB), .slice none 0 0, ?_, ?_, ?_, ?_⟩, H9.out.2.1.trans hS (fun b hb e => by omega)⟩
        · rw [HRs.out]
        · rw [HRs.out]
          show ownsU _ _ _ 2 (.slice A9 n9 c9) ([ctOf sPlain] ++ more : List Fld).length (fldCells ([ctOf sPlain] ++ more))
          rw [List.length_append, HN9.out, show fldCells ([ctOf sPlain] ++ more) = fldCells [ctOf sPlain] ++ fldCells more from by simp [fldCells]]
          exact ((ownsU.of H9.out.1).sm hS (fun b e1 e2 => by have := (World.ownsRow.lt H9.out.1 b e1).1; omega)).base (fun b e1 => by have := (World.ownsRow.lt H9.out.1 b e1).1; omega)
        · rw [HRs.out]
          exact (H9.out.2.2.sm hS (fun b e1 e2 => by have := (H9.out.2.2.lt b e1).1; omega)).base (fun b e1 => by have := (H9.out.2.2.lt b e1).1; omega)
        · rw [HRs.out]
          exact ownsU.nil _ _ _ _)
set_option maxRecDepth 100000 in
set_option maxHeartbeats 4000000 in
theorem rCanned_any (w : World) (hg : G1 w) (c : Int) (hc0 : 0 ≤ c) (hc1 : c ≤ 9223372036854775807) (A : Option Addr) (cap : Nat) (more : List Fld) (hA : FRow w A more) (hn : A = none → more.length = 0 ∧ cap = 0) (hm : more.length ≤ 100000) :
    Calls Tryz.prog 49 #[.int .i64 c, .slice A more.length cap] w (RspPost w (cannedL c more)) := by
  obtain ⟨b, hb⟩ : ∃ b, noBodyB c = b := ⟨_, rfl⟩
  have HNB := Lib.hid (show ∀ W, Calls Tryz.prog 36 #[.int .i64 c] W fun e w' => e = .returned (.bool b) ∧ w' = W from fun W => hb ▸ rNoBody_any W c)
  have HB := Lib.hid hb
  have HA := Lib.hid (And.intro hA.rowC hn)
  have HG := Lib.hid hg
  clear hb hA hn hg
  obtain ⟨R, hR⟩ : ∃ R, cannedL c more = R := ⟨_, rfl⟩
  rw [hR]
  have HR := Lib.hid hR
  clear hR
  go_enter Tryz.func49, Tryz.ntmps49
  go_wp2_with fail
  refine (HNB.out _).mono ?_
  rintro e w1 ⟨rfl, hw1⟩
  obtain ⟨r0, hr0⟩ : ∃ r0, w.heap.size = r0 := ⟨_, rfl⟩
  have hs1 : Sm No w w1 := by rw [hw1]; exact ((Sm.refl _ _).alloc _).alloc _
  have b0 : Bk w1 r0 52 #[.int .i64 0, .slice none 0 0, .slice none 0 0, .slice none 0 0] := by rw [hw1, ← hr0]; exact (Bk.new w _ _).alloc _
  have b1 : Bk w1 (r0 + 1) 52 #[.int .i64 c, .slice none 0 0, .slice none 0 0, .slice none 0 0] := by rw [hw1, ← hr0]; exact Bk.newAt _ _ _ (by simp)
  have hz1 : w1.heap.size = r0 + 2 := by rw [hw1, ← hr0]; simp
  rw [hr0]
  have c11 := b1.at 1 (v := .slice none 0 0) rfl
  have hl1 := b1.lt
  have H1 := Lib.hid (And.intro hs1 (And.intro b0 (And.intro b1 (And.intro hz1 hr0))))
  clear hs1 b0 b1 hz1 hw1 hr0
  cases b with
  | true =>
    have hRs : cannedL c more = ⟨c, [] ++ more, [], []⟩ := by unfold cannedL; rw [if_pos HB.out]; rfl
    have HRs := Lib.hid hRs
    have HW := Lib.hid (And.intro H1.out.2.1 (And.intro H1.out.2.2.1 (And.intro H1.out.1 (And.intro (show OwnB w1 (r0 + 2) 5 (.slice none 0 0) [] from ownsU.nil _ _ _ _) (by rw [H1.out.2.2.2.1]; exact Nat.le_refl (r0 + 2) : r0 + 2 ≤ w1.heap.size)))))
    clear hRs
    go_wp2_with (refine wpList_push_opt rfl _ _ 27 65 rfl Tryz.underlying27 _ 2 32 infoF2 rfl (by decide) (by decide) (r0 + 2) ([] : List Fld).length (.slice none 0 0) (fldCells []) rfl (World.ownsRow_nil w1 (r0 + 2) 65 2) A more.length cap (fldCells more) rfl HA.out.2 (fldCells_len _) (HA.out.1.no HW.out.2.2.1) (fldCells_one _) (by simp; omega) HW.out.2.2.2.2 ?_; intro v9 w9 hown9 hs9 hb9; refine RowKit.Hid.out ?_)
    refine Lib.hid ?_
    obtain ⟨A9, c9, hv9, _⟩ := own_rowC hown9
    obtain ⟨n9, hn9⟩ : ∃ n9, ([] : List Fld).length + more.length = n9 := ⟨_, rfl⟩
    rw [hn9] at hv9 hown9
    subst hv9
    have HN9 := Lib.hid hn9
    clear hn9
    have hge : ∀ b, Value.ownBlock (.slice none 0 0) = some b → r0 + 2 ≤ b := fun b e => (World.ownsRow.lt (World.ownsRow_nil w1 (r0 + 2) 65 2) b e).1
    have b0 := HW.out.1.sm hs9 (fun e => by have := hge _ e; omega)
    have b1 := HW.out.2.1.sm hs9 (fun e => by have := hge _ e; omega)
    have hsw : Sm No w w9 := HW.out.2.2.1.trans hs9 (fun b hb e => by have := hge b e; have := H1.out.2.2.2.2; omega)
    have hB9 := HW.out.2.2.2.1.sm hs9 (fun b e1 e2 => absurd rfl (own_types_ne (World.ownsRow_nil w1 (r0 + 2) 65 2) (HW.out.2.2.2.1) (by decide) e2 e1))
    have c10 := b1.at 0 (v := .int .i64 c) rfl
    have c11 := b1.at 1 (v := (.slice none 0 0)) rfl
    have c12 := b1.at 2 (v := (.slice none 0 0)) rfl
    have c13 := b1.at 3 (v := .slice none 0 0) rfl
    have c00 := b0.at 0 (v := .int .i64 0) rfl
    have c01 := b0.at 1 (v := .slice none 0 0) rfl
    have c02 := b0.at 2 (v := .slice none 0 0) rfl
    have c03 := b0.at 3 (v := .slice none 0 0) rfl
    have f11 := b1.fz 1
    have f00 := b0.fz 0
    have f01 := b0.fz 1
    have f02 := b0.fz 2
    have f03 := b0.fz 3
    have hl9 := b1.lt
    have hl0 := b0.lt
    have H9 := Lib.hid (And.intro hown9 (And.intro hsw hB9))
    clear hown9 hs9 hb9 b0 b1 hsw hB9 hge
    go_wp2_with fail
    have hr0 := H1.out.2.2.2.2
    have hS : Sm (fun b => b = r0 ∨ b = r0 + 1) w9 _ := ((((((Sm.refl _ w9).setS (Or.inr rfl) 1 (.slice A9 n9 c9)).setS (Or.inl rfl) 0 (.int .i64 c)).setS (Or.inl rfl) 1 (.slice A9 n9 c9)).setS (Or.inl rfl) 2 (.slice none 0 0)).setS (Or.inl rfl) 3 (.slice none 0 0))
    exact bodyPost_ret (v := .agg #[.int .i64 c, .slice A9 n9 c9, (.slice none 0 0), .slice none 0 0]) (by simp [results, Tryz.results49, go_sem, c00, c01, c02, c03]) rfl
      (by
        rw [← HR.out]
        refine ⟨_, rfl, ⟨.slice A9 n9 c9, (.slice none 0 0), .slice none 0 0, ?_, ?_, ?_, ?_⟩, H9.out.2.1.trans hS (fun b hb e => by omega)⟩
        · rw [HRs.out]
        · rw [HRs.out]
          show ownsU _ _ _ 2 (.slice A9 n9 c9) ([] ++ more : List Fld).length (fldCells ([] ++ more))
          rw [List.length_append, HN9.out, show fldCells ([] ++ more) = fldCells [] ++ fldCells more from by simp [fldCells]]
          exact ((ownsU.of H9.out.1).sm hS (fun b e1 e2 => by have := (World.ownsRow.lt H9.out.1 b e1).1; omega)).base (fun b e1 => by have := (World.ownsRow.lt H9.out.1 b e1).1; omega)
        · rw [HRs.out]
          exact (H9.out.2.2.sm hS (fun b e1 e2 => by have := (H9.out.2.2.lt b e1).1; omega)).base (fun b e1 => by have := (H9.out.2.2.lt b e1).1; omega)
        · rw [HRs.out]
          exact ownsU.nil _ _ _ _)
  | false =>
    have hRs : cannedL c more = ⟨c, [ctOf sPlain] ++ more, Lib.itoa c ++ 32 :: (phraseT c ++ [10]), []⟩ := by unfold cannedL; rw [if_neg (by rw [HB.out]; decide)]; rfl
    have HRs := Lib.hid hRs
    clear hRs
    go_wp2_with (refine wpList_push rfl _ _ 27 65 rfl Tryz.underlying27 _ 2 32 infoF2 rfl (by decide) (by decide) (r0 + 2) 0 (.slice none 0 0) [] rfl (World.ownsRow_nil _ _ _ _) w1.heap.size #[.string (txtB sCT), .string (txtB sPlain)] rfl (Bk.new w1 _ _) rfl (by simp [Value.oneCell']) (by omega) (by rw [← H1.out.2.2.2.1]; simp) ?_; intro v2 w2 hown2 hs2 hb2; refine RowKit.Hid.out ?_)
    refine Lib.hid ?_
    obtain ⟨A2, c2, rfl, _⟩ := own_rowC hown2
    have hge : ∀ b, (Value.slice A2 (0 + 1) c2).ownBlock = some b → r0 + 2 ≤ b := fun b e => (World.ownsRow.lt hown2 b e).1
    have hs12 : Sm No w1 w2 := ((Sm.refl No w1).alloc _).trans hs2 (fun _ _ h => by cases h)
    have b0 := H1.out.2.1.sm hs12 (fun h => h)
    have b1 := H1.out.2.2.1.sm hs12 (fun h => h)
    have hl2 := b1.lt
    have c11 := b1.at 1 (v := .slice none 0 0) rfl
    have f11 := b1.fz 1
    have hs3 := (Sm.refl (fun b => b = r0 + 1) w2).set1 1 (.slice A2 (0 + 1) c2)
    have b03 := b0.sm hs3 (fun e => by omega)
    have b13 := (b1.set 1 (.slice A2 (0 + 1) c2)).eq (by rfl : _ = #[.int .i64 c, .slice A2 (0 + 1) c2, .slice none 0 0, .slice none 0 0])
    have hown3 := own_row_sm hown2 hs3 (fun b e1 e2 => by have := hge b e1; omega)
    have hsw3 : Sm No w (w2.setCell ⟨r0 + 1, 1, none⟩ (.slice A2 (0 + 1) c2)) := (H1.out.1.trans hs12 (fun _ _ h => h)).setN (by have := H1.out.2.2.2.2; omega) _ _
    have H3 := Lib.hid (And.intro b03 (And.intro b13 (And.intro hown3 (And.intro hsw3 hge))))
    clear hown2 hs2 hb2 hs12 b0 b1 hs3 b03 b13 hown3 hsw3 hge
    have l1 := itoa_len hc0 hc1
    have l2 := phraseT_len c
    go_wp2_with fail
    refine (rDec_any _ c hc0 hc1).mono ?_
    rintro e w4 ⟨rfl, hs4⟩
    unfold strV
    have H4 := Lib.hid (And.intro (H3.out.1.sm hs4 (fun h => h)) (And.intro (H3.out.2.1.sm hs4 (fun h => h)) (And.intro (own_row_sm H3.out.2.2.1 hs4 (fun _ _ h => h)) (H3.out.2.2.2.1.trans hs4 (fun _ _ h => h)))))
    clear hs4 c11 f11
    go_wp2_with fail
    refine (rPhrase_any _ c).mono ?_
    rintro e w5 ⟨rfl, rfl⟩
    unfold strV
    have H5 := H4
    go_wp2_with (refine wpList_bytes_own rfl 9 23 5 _ rfl _ rfl Tryz.underlying9 Tryz.underlying23 Tryz.underlying5 (r0 + 2) (by have := H5.out.2.1.lt; omega) (cannedT_len hc0 hc1) ?_; intro cB w6 hOB hsB hzB; refine RowKit.Hid.out ?_)
    refine Lib.hid ?_
    obtain ⟨gB, hgB⟩ : ∃ gB, w5.heap.size = gB := ⟨_, rfl⟩
    rw [hgB] at hOB ⊢
    clear hzB hgB
    rw [cannedT_eq] at hOB
    have hsz : (⟨(Lib.itoa c ++ 32 :: (phraseT c ++ [10])).toArray⟩ : ByteArray).size = (Lib.itoa c).length + 1 + (phraseT c).length + 1 := by simp [ByteArray.size]; omega
    obtain ⟨nB, hnB⟩ : ∃ nB, (Lib.itoa c).length + 1 + (phraseT c).length + 1 = nB := ⟨_, rfl⟩
    rw [hsz, hnB] at hOB
    rw [hnB]
    clear hnB hsz
    have b0 := H5.out.1.sm hsB (fun h => h)
    have b1 := H5.out.2.1.sm hsB (fun h => h)
    have hl5 := b1.lt
    have c12 := b1.at 2 (v := .slice none 0 0) rfl
    have f12 := b1.fz 2
    have hs6 := (Sm.refl (fun b => b = r0 + 1) w6).set1 2 (.slice (some ⟨gB, 0, none⟩) nB cB)
    have b06 := b0.sm hs6 (fun e => by omega)
    have b16 := (b1.set 2 (.slice (some ⟨gB, 0, none⟩) nB cB)).eq (by rfl : _ = #[.int .i64 c, .slice A2 (0 + 1) c2, .slice (some ⟨gB, 0, none⟩) nB cB, .slice none 0 0])
    have hown6 := own_row_sm (own_row_sm H5.out.2.2.1 hsB (fun _ _ h => h)) hs6 (fun b e1 e2 => by have := H3.out.2.2.2.2 b e1; omega)
    have hB6 := hOB.sm hs6 (fun b e1 e2 => by have := (hOB.lt b e1).1; omega)
    have hsw6 : Sm No w (w6.setCell ⟨r0 + 1, 2, none⟩ (.slice (some ⟨gB, 0, none⟩) nB cB)) := (H5.out.2.2.2.trans hsB (fun _ _ h => h)).setN (by have := H1.out.2.2.2.2; omega) _ _
    have c11 := b16.at 1 (v := .slice A2 (0 + 1) c2) rfl
    have hz6 : r0 + 2 ≤ (w6.setCell ⟨r0 + 1, 2, none⟩ (.slice (some ⟨gB, 0, none⟩) nB cB)).heap.size := by have := b16.lt; omega
    have HW := Lib.hid (And.intro b06 (And.intro b16 (And.intro hsw6 (And.intro hB6 hz6))))
    have H8 := Lib.hid (And.intro trivial hown6)
    clear hsB b0 b1 hs6 b06 b16 hown6 hB6 hsw6 hOB hz6
    go_wp2_with (refine wpList_push_opt rfl _ _ 27 65 rfl Tryz.underlying27 _ 2 32 infoF2 rfl (by decide) (by decide) (r0 + 2) ([ctOf sPlain] : List Fld).length (.slice A2 (0 + 1) c2) (fldCells [ctOf sPlain]) rfl H8.out.2 A more.length cap (fldCells more) rfl HA.out.2 (fldCells_len _) (HA.out.1.no HW.out.2.2.1) (fldCells_one _) (by simp; omega) HW.out.2.2.2.2 ?_; intro v9 w9 hown9 hs9 hb9; refine RowKit.Hid.out ?_)
    refine Lib.hid ?_
    obtain ⟨A9, c9, hv9, _⟩ := own_rowC hown9
    obtain ⟨n9, hn9⟩ : ∃ n9, ([ctOf sPlain] : List Fld).length + more.length = n9 := ⟨_, rfl⟩
    rw [hn9] at hv9 hown9
    subst hv9
    have HN9 := Lib.hid hn9
    clear hn9
    have hge : ∀ b, Value.ownBlock (.slice A2 (0 + 1) c2) = some b → r0 + 2 ≤ b := fun b e => (World.ownsRow.lt H8.out.2 b e).1
    have b0 := HW.out.1.sm hs9 (fun e => by have := hge _ e; omega)
    have b1 := HW.out.2.1.sm hs9 (fun e => by have := hge _ e; omega)
    have hsw : Sm No w w9 := HW.out.2.2.1.trans hs9 (fun b hb e => by have := hge b e; have := H1.out.2.2.2.2; omega)
    have hB9 := HW.out.2.2.2.1.sm hs9 (fun b e1 e2 => absurd rfl (own_types_ne H8.out.2 (HW.out.2.2.2.1) (by decide) e2 e1))
    have c10 := b1.at 0 (v := .int .i64 c) rfl
    have c11 := b1.at 1 (v := (.slice A2 (0 + 1) c2)) rfl
    have c12 := b1.at 2 (v := (.slice (some ⟨gB, 0, none⟩) nB cB)) rfl
    have c13 := b1.at 3 (v := .slice none 0 0) rfl
    have c00 := b0.at 0 (v := .int .i64 0) rfl
    have c01 := b0.at 1 (v := .slice none 0 0) rfl
    have c02 := b0.at 2 (v := .slice none 0 0) rfl
    have c03 := b0.at 3 (v := .slice none 0 0) rfl
    have f11 := b1.fz 1
    have f00 := b0.fz 0
    have f01 := b0.fz 1
    have f02 := b0.fz 2
    have f03 := b0.fz 3
    have hl9 := b1.lt
    have hl0 := b0.lt
    have H9 := Lib.hid (And.intro hown9 (And.intro hsw hB9))
    clear hown9 hs9 hb9 b0 b1 hsw hB9 hge
    go_wp2_with fail
    have hr0 := H1.out.2.2.2.2
    have hS : Sm (fun b => b = r0 ∨ b = r0 + 1) w9 _ := ((((((Sm.refl _ w9).setS (Or.inr rfl) 1 (.slice A9 n9 c9)).setS (Or.inl rfl) 0 (.int .i64 c)).setS (Or.inl rfl) 1 (.slice A9 n9 c9)).setS (Or.inl rfl) 2 (.slice (some ⟨gB, 0, none⟩) nB cB)).setS (Or.inl rfl) 3 (.slice none 0 0))
    exact bodyPost_ret (v := .agg #[.int .i64 c, .slice A9 n9 c9, (.slice (some ⟨gB, 0, none⟩) nB cB), .slice none 0 0]) (by simp [results, Tryz.results49, go_sem, c00, c01, c02, c03]) rfl
      (by
        rw [← HR.out]
        refine ⟨_, rfl, ⟨.slice A9 n9 c9, (.slice (some ⟨gB, 0, none⟩) nB cB), .slice none 0 0, ?_, ?_, ?_, ?_⟩, H9.out.2.1.trans hS (fun b hb e => by omega)⟩
        · rw [HRs.out]
        · rw [HRs.out]
          show ownsU _ _ _ 2 (.slice A9 n9 c9) ([ctOf sPlain] ++ more : List Fld).length (fldCells ([ctOf sPlain] ++ more))
          rw [List.length_append, HN9.out, show fldCells ([ctOf sPlain] ++ more) = fldCells [ctOf sPlain] ++ fldCells more from by simp [fldCells]]
          exact ((ownsU.of H9.out.1).sm hS (fun b e1 e2 => by have := (World.ownsRow.lt H9.out.1 b e1).1; omega)).base (fun b e1 => by have := (World.ownsRow.lt H9.out.1 b e1).1; omega)
        · rw [HRs.out]
          exact (H9.out.2.2.sm hS (fun b e1 e2 => by have := (H9.out.2.2.lt b e1).1; omega)).base (fun b e1 => by have := (H9.out.2.2.lt b e1).1; omega)
        · rw [HRs.out]
          exact ownsU.nil _ _ _ _)
end Go.Proofs.YtiglfbimijnpcaaGreatDoor

