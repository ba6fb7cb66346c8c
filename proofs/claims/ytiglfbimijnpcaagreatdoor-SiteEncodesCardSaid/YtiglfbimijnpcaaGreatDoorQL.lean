/- Lists of tokens, quoted texts, parameters: as words over bytes. No program in sight. -/
/- Quoted texts: list's Quoted and its twin. -/
/- Lists of tokens: list's Tokens. -/
/- Lists of tokens: the twin's Tokens; Has; texts. -/
/- Parameters: tokens and blanks at the beginning. -/
/- Parameters: list's param. -/
/- Parameters: list's Params. -/
/- Parameters: the twin's Params. -/
/- usherlaw9's texts, params, heavy; Has; known. -/
/- usherlaw9's heavy; Has. -/
/- usherlaw9.known; the walks of ListQuoted, ListParams. -/
/- The walks of ListHasAll, ListJoins, ListTokens. -/
import Derived.Lib.SplitLaws
import Derived.Lib.IndexBytes
import Derived.Test.YtiglfbimijnpcaaGreatDoorQB
import Derived.Test.YtiglfbimijnpcaaGreatDoorQO
import Derived.Test.YtiglfbimijnpcaaGreatDoorQTexts
import Derived.WalkSpells
import Derived.Deep.QuietTactic
import Derived.BigQuiet
import Derived.Deep.RegionHeld3
import Derived.RegionTactic
import Derived.BigRegion
import Derived.Test.YtiglfbimijnpcaaGreatDoorQN
namespace Go.Proofs.YtiglfbimijnpcaaGreatDoor

/-! Quoted texts. -/
def quoteR : List UInt8 → List UInt8 → Nat → List UInt8 × Nat
  | [], _, _ => ([], 0)
  | [c], acc, i => if c = 34 then (acc, i + 1) else ([], 0)
  | c :: d :: r, acc, i =>
    if c = 34 then (acc, i + 1)
    else if c = 92 then (if valB d = true then quoteR r (acc ++ [d]) (i + 2) else ([], 0))
    else if valB c = true then quoteR (d :: r) (acc ++ [c]) (i + 1) else ([], 0)
def quoteL : List UInt8 → List UInt8 × Nat
  | [] => ([], 0)
  | c :: r => if c = 34 then quoteR r [] 1 else ([], 0)

theorem quoteR_end (c : UInt8) (r acc : List UInt8) (i : Nat) (h : c = 34) : quoteR (c :: r) acc i = (acc, i + 1) := by
  cases r <;> simp [quoteR, h]
theorem quoteR_esc (d : UInt8) (r acc : List UInt8) (i : Nat) : quoteR (92 :: d :: r) acc i = if valB d = true then quoteR r (acc ++ [d]) (i + 2) else ([], 0) := by
  simp [quoteR]
theorem quoteR_esc0 (acc : List UInt8) (i : Nat) : quoteR [92] acc i = ([], 0) := by simp [quoteR]
theorem quoteR_byte (c : UInt8) (r acc : List UInt8) (i : Nat) (h1 : c ≠ 34) (h2 : c ≠ 92) : quoteR (c :: r) acc i = if valB c = true then quoteR r (acc ++ [c]) (i + 1) else ([], 0) := by
  cases r with
  | nil => simp [quoteR, h1]
  | cons d r => simp [quoteR, h1, h2]

theorem quoteR_cut : ∀ (r acc : List UInt8) (i : Nat) (a : List UInt8) (n : Nat), quoteR r acc i = (a, n) → n ≠ 0 →
    i < n ∧ n ≤ i + r.length ∧ quoteR (r.take (n - i)) acc i = (a, n) ∧ (quoteR (r.take (n - 1 - i)) acc i).2 = 0
  | [], acc, i, a, n, h, hn => by simp [quoteR] at h; omega
  | [c], acc, i, a, n, h, hn => by
    by_cases h1 : c = 34
    · rw [quoteR_end c [] acc i h1] at h
      injection h with h2 h3
      subst h3
      have e1 : i + 1 - i = 1 := by omega
      have e2 : i + 1 - 1 - i = 0 := by omega
      rw [e1, e2]
      exact ⟨by omega, by simp, by simp [quoteR, h1, h2], by simp [quoteR]⟩
    · simp [quoteR, h1] at h; omega
  | c :: d :: r, acc, i, a, n, h, hn => by
    by_cases h1 : c = 34
    · rw [quoteR_end c _ acc i h1] at h
      injection h with h2 h3
      subst h3
      have e1 : i + 1 - i = 1 := by omega
      have e2 : i + 1 - 1 - i = 0 := by omega
      rw [e1, e2]
      exact ⟨by omega, by simp, by simp [quoteR, h1, h2], by simp [quoteR]⟩
    · by_cases h2 : c = 92
      · subst h2
        rw [quoteR_esc] at h
        split at h
        · rename_i hd
          obtain ⟨g1, g2, g3, g4⟩ := quoteR_cut r _ _ a n h hn
          have e1 : n - i = (n - (i + 2)) + 1 + 1 := by omega
          refine ⟨by omega, by simp at g2 ⊢; omega, ?_, ?_⟩
          · rw [e1, List.take_succ_cons, List.take_succ_cons, quoteR_esc, if_pos hd]
            exact g3
          · rcases Nat.lt_or_ge (n - 1) (i + 2) with g | g
            · have e2 : n - 1 - i = 1 := by omega
              rw [e2]
              simp [quoteR]
            · have e2 : n - 1 - i = (n - 1 - (i + 2)) + 1 + 1 := by omega
              rw [e2, List.take_succ_cons, List.take_succ_cons, quoteR_esc, if_pos hd]
              exact g4
        · injection h with _ h3; omega
      · rw [quoteR_byte c _ acc i h1 h2] at h
        split at h
        · rename_i hd
          obtain ⟨g1, g2, g3, g4⟩ := quoteR_cut (d :: r) _ _ a n h hn
          have e1 : n - i = (n - (i + 1)) + 1 := by omega
          refine ⟨by omega, by simp at g2 ⊢; omega, ?_, ?_⟩
          · rw [e1, List.take_succ_cons, quoteR_byte c _ acc i h1 h2, if_pos hd]
            exact g3
          · rcases Nat.lt_or_ge (n - 1) (i + 1) with g | g
            · omega
            · have e2 : n - 1 - i = (n - 1 - (i + 1)) + 1 := by omega
              rw [e2, List.take_succ_cons, quoteR_byte c _ acc i h1 h2, if_pos hd]
              exact g4
        · injection h with _ h3; omega

theorem quoteL_cut {l a : List UInt8} {n : Nat} (h : quoteL l = (a, n)) (hn : n ≠ 0) : n ≤ l.length ∧ quoteL (l.take n) = (a, n) ∧ (quoteL (l.take (n - 1))).2 = 0 ∧ 2 ≤ n := by
  cases l with
  | nil => simp [quoteL] at h; omega
  | cons c r =>
    by_cases hc : c = 34
    · rw [quoteL, if_pos hc] at h
      obtain ⟨g1, g2, g3, g4⟩ := quoteR_cut r [] 1 a n h hn
      obtain ⟨m, rfl⟩ : ∃ m, n = m + 2 := ⟨n - 2, by omega⟩
      refine ⟨by simp; omega, ?_, ?_, by omega⟩
      · rw [List.take_succ_cons, quoteL, if_pos hc]; exact g3
      · have e : m + 2 - 1 = m + 1 := by omega
        rw [e, List.take_succ_cons, quoteL, if_pos hc]; exact g4
    · rw [quoteL, if_neg hc] at h
      injection h with _ h; omega

/-! Pieces between commas; tokens. -/
def segsT : List UInt8 → List UInt8 → List (List UInt8)
  | _, [] => []
  | cur, c :: l => if c = 44 then cur :: segsT [] l else segsT (cur ++ [c]) l
def commaL (v : List UInt8) : List (List UInt8) := segsT [] (v ++ [44])
def toksA : List (List UInt8) → List (List UInt8) → Option (List (List UInt8))
  | acc, [] => some acc
  | acc, p :: ps => if trimL p = [] then toksA acc ps else if tokL (trimL p) = true then toksA (acc ++ [lowL (trimL p)]) ps else none
def tokensL (values : List (List UInt8)) : Option (List (List UInt8)) := toksA [] (values.flatMap commaL)

theorem toksA_blank {p : List UInt8} (acc ps : List (List UInt8)) (h : trimL p = []) : toksA acc (p :: ps) = toksA acc ps := by rw [toksA, if_pos h]
theorem toksA_tok {p : List UInt8} (acc ps : List (List UInt8)) (h : trimL p ≠ []) (ht : tokL (trimL p) = true) : toksA acc (p :: ps) = toksA (acc ++ [lowL (trimL p)]) ps := by rw [toksA, if_neg h, if_pos ht]
theorem toksA_bad {p : List UInt8} (acc ps : List (List UInt8)) (h : trimL p ≠ []) (ht : tokL (trimL p) = false) : toksA acc (p :: ps) = none := by rw [toksA, if_neg h, if_neg (by simp [ht])]

/-! strings.Split at a comma. -/
/-! Parameters. -/
def tokPre (l : List UInt8) : List UInt8 := l.takeWhile tokB
/-- Behind a parameter's name. -/
def paramR (n : List UInt8) : List UInt8 → Option ((List UInt8 × List UInt8) × List UInt8)
  | [] => some ((n, []), [])
  | d :: s =>
    if d = 61 then
      if (quoteL s).2 = 0 then (if tokPre s = [] then none else some ((n, tokPre s), s.drop (tokPre s).length))
      else some ((n, (quoteL s).1), s.drop (quoteL s).2)
    else some ((n, []), d :: s)
def paramL : List UInt8 → Option ((List UInt8 × List UInt8) × List UInt8)
  | [] => none
  | c :: r =>
    if c = 59 then
      if tokPre (dropL r) = [] then none else paramR (tokPre (dropL r)) ((dropL r).drop (tokPre (dropL r)).length)
    else none
def paramsF : Nat → List (List UInt8 × List UInt8) → List UInt8 → Option (List (List UInt8 × List UInt8))
  | 0, _, _ => none
  | k + 1, acc, s =>
    if dropL s = [] then some acc
    else match paramL (dropL s) with
      | none => none
      | some (p, r) => if k = 0 then none else paramsF k (acc ++ [p]) r
def paramsL (s : List UInt8) : Option (List (List UInt8 × List UInt8)) := paramsF 17 [] s
end Go.Proofs.YtiglfbimijnpcaaGreatDoor

namespace Go.Proofs.YtiglfbimijnpcaaGreatDoor
open Go.RowKit Go.Proofs

def byteQ (c : UInt8) : Value := .int .u8 c.toNat
/-- v is a slice of bytes of a block of its own, not before block B. -/
def OwnQ (w : World) (B : Nat) (v : Value) (l : List UInt8) : Prop := w.ownsRow B 5 1 v l.length (l.map byteQ)
theorem OwnQ.no {w w' : World} {B : Nat} {v : Value} {l : List UInt8} (h : OwnQ w B v l) (hs : Sm No w w') : OwnQ w' B v l := own_row_sm h hs (fun _ _ h => h)
theorem OwnQ.by {w : World} {B : Nat} {v : Value} {l : List UInt8} (h : OwnQ w B v l) : (v = .slice none 0 0 ∧ l = []) ∨ ∃ g cap, v = .slice (some ⟨g, 0, none⟩) l.length cap ∧ B ≤ g ∧ By w g l := by
  rcases own_row_form h with ⟨h1, h2, _⟩ | ⟨g, cap, hv, _, hB, hg, _, hc, hz⟩
  · exact Or.inl ⟨h1, List.eq_nil_of_length_eq_zero h2⟩
  · exact Or.inr ⟨g, cap, hv, hB, hg, fun j c hj => ⟨hc j _ (by simp [hj, byteQ]), hz j⟩⟩
section
variable {P : Program} {ops : Array Oper} {rest : List Oper} {o : Oper} {a : Act} {w : World} {Q : Exit → Act → World → Prop}
theorem wpList_string_nil (hgd : o.guard = none) (src dst e : TypeId) (x : Operand) (ho : o.op = .convert src dst x) (hx : a.eval x = .slice none 0 0)
    (hs : P.underlying src = some (.slice e)) (he : P.underlying e = some (.int .u8)) (hd : P.underlying dst = some .string)
    (h : wpList P ops Q rest (a.put o.dst (.string ⟨#[]⟩)) w) : wpList P ops Q (o :: rest) a w := by
  refine wpList_plain hgd fun _ hK => ?_
  unfold Oper.wp execOp
  have hr : (convert src dst (.slice none 0 0)).run P w = .ok (.string ⟨#[]⟩) w := by
    rw [run_convert_bytes_string w src dst e none 0 0 hs he hd]
    rfl
  simp only [ho, hx, Sem.run_bind, Sem.run_pure, hr, Result.andThen_ok]
  exact hK _ _ h
/-- string(b), b a slice of the call's own. -/
theorem wpList_string_own (hgd : o.guard = none) (src dst : TypeId) (x : Operand) (ho : o.op = .convert src dst x) (B : Nat) (l : List UInt8) (v : Value) (hx : a.eval x = v) (hO : OwnQ w B v l)
    (hs : P.underlying src = some (.slice 5)) (he : P.underlying 5 = some (.int .u8)) (hd : P.underlying dst = some .string)
    (h : wpList P ops Q rest (a.put o.dst (.string ⟨l.toArray⟩)) w) : wpList P ops Q (o :: rest) a w := by
  rcases hO.by with ⟨rfl, rfl⟩ | ⟨g, cap, rfl, _, hb⟩
  · exact wpList_string_nil hgd src dst _ x ho hx hs he hd h
  · exact wpList_string_of hgd src dst _ x ho g _ cap l hx hs he hd hb rfl h
end

theorem size_toList' (a : ByteArray) : a.size = a.data.toList.length := by simp

/-- What a look for a quoted text ends in. -/
def quoteV (p : List UInt8 × Nat) : Value := .tuple #[.string ⟨p.1.toArray⟩, .int .i64 (p.2 : Int)]
def QuoRel (s : ByteArray) (w : World) (b i : Value) (wr : World) : Prop :=
  ∃ (k : Nat) (acc : List UInt8), k ≤ s.size ∧ 1 ≤ k ∧ i = .int .i64 k ∧ acc.length ≤ k ∧ quoteL s.data.toList = quoteR (s.data.toList.drop k) acc k ∧ OwnQ wr w.heap.size b acc ∧ Sm No w wr

theorem valueByte_say {c : UInt8} {r : Bool} (h : Hid (valB c = r)) (w : World) : Calls Tryz.prog 66 #[.int .u8 c.toNat] w fun e w' => e = .returned (.bool r) ∧ w = w' := by
  rw [← h.out]; exact valueByte_any c w
theorem OwnQ.push {w : World} {B n : Nat} {v : Value} {l : List UInt8} {c : UInt8} (h : w.ownsRow B 5 1 v (l.length + 1) (l.map byteQ ++ [.int .u8 c.toNat])) (_ : n = 0) : OwnQ w B v (l ++ [c]) := by
  unfold OwnQ
  rw [List.length_append, List.map_append]
  exact h

set_option maxHeartbeats 8000000 in
theorem rQuoted_any (s : ByteArray) (hs : s.size ≤ 1000000) (w : World) :
    Calls Tryz.prog 200 #[.string s] w fun e w' => e = .returned (quoteV (quoteL s.data.toList)) ∧ Sm No w w' := by
  obtain ⟨R, hR⟩ : ∃ R, quoteL s.data.toList = R := ⟨_, rfl⟩
  rw [hR]
  by_cases h0 : s.size = 0
  · have hn : s.data.toList = [] := List.eq_nil_of_length_eq_zero (by simpa using h0)
    rw [hn] at hR
    subst hR
    have H0 := Lib.hid h0
    have h1 : (((s.size : Nat) : Int) == 0) = true := by simp [h0]
    clear hn h0
    go_enter Tryz.func200, Tryz.ntmps200
    go_wp2_with fail
    all_goals
      go_ret2
      exact ⟨rfl, Sm.refl _ _⟩
  · have h1 : (((s.size : Nat) : Int) == 0) = false := by simpa using h0
    have h2 : 0 < s.size := by omega
    by_cases hq : s[0] = 34
    · have e0 := drop_at s 0 h2
      rw [List.drop_zero] at e0
      have hq1 : ((s[0].toNat : Int) != 34) = false := by simp [hq]
      have hL : quoteL s.data.toList = quoteR (s.data.toList.drop 1) [] 1 := by rw [e0, quoteL, if_pos hq]; rfl
      have HL := Lib.hid (And.intro hL hR)
      clear e0 hq hL hR h0
      go_enter Tryz.func200, Tryz.ntmps200
      go_wp2_with fail
      go_loopw [4, 5] (fun b i wr => QuoRel s w b i wr) (fun _ i _ => s.size - (intOf i).toNat)
      case atStart => exact ⟨1, [], h2, Nat.le_refl _, rfl, by simp, HL.out.1, World.ownsRow_nil _ _ _ 1, Sm.refl _ _⟩
      case round =>
        obtain ⟨k, acc, hk, hk1, rfl, hacc, hqr, hO, hsm⟩ := hrel
        have HQ := Lib.hid (And.intro hqr (And.intro hO hsm))
        clear hqr hO hsm
        by_cases hlt : k < s.size
        · have hd := drop_at s k hlt
          obtain ⟨c, hc⟩ : ∃ c, s[k] = c := ⟨_, rfl⟩
          have hc256 := c.toNat_lt
          rw [hc] at hd
          by_cases hc1 : c = 34
          · have hRR : R = (acc, k + 1) := by rw [← HL.out.2, HQ.out.1, hd, quoteR_end _ _ _ _ hc1]
            have HRR := Lib.hid hRR
            have ht : ((c.toNat : Int) == 34) = true := by rw [hc1]; rfl
            clear hRR hd hc1
            go_wp2_with (refine wpList_string_own rfl 23 9 _ rfl w.heap.size acc _ rfl HQ.out.2.1 Tryz.underlying23 Tryz.underlying5 Tryz.underlying9 ?_)
            go_ret2
            exact ⟨by rw [HRR.out]; rfl, HQ.out.2.2⟩
          · have ht : ((c.toNat : Int) == 34) = false := u8_ne (n := 34) (by decide) hc1
            by_cases hc2 : c = 92
            · have ht2 : ((c.toNat : Int) == 92) = true := by rw [hc2]; rfl
              rw [hc2] at hd
              by_cases hl2 : k + 1 < s.size
              · have hd2 := drop_at s (k + 1) hl2
                obtain ⟨d, hdd⟩ : ∃ d, s[k + 1] = d := ⟨_, rfl⟩
                have hd256 := d.toNat_lt
                rw [hdd] at hd2
                obtain ⟨f, hf⟩ : ∃ f, valB d = f := ⟨_, rfl⟩
                have HF := Lib.hid hf
                have hst : quoteL s.data.toList = if f = true then quoteR (s.data.toList.drop (k + 2)) (acc ++ [d]) (k + 2) else ([], 0) := by rw [HQ.out.1, hd, hd2, quoteR_esc, hf]
                have HD := Lib.hid hst
                have hne : ((((k : Nat) : Int) + 1) == (s.size : Int)) = false := by simp; omega
                have k1 : (0 : Int) ≤ (k : Int) + 1 := by omega
                have k2 : (k : Int) + 1 < (s.size : Int) := by omega
                clear hd hd2 hf hst hc1 hc2
                go_wp2_with fail
                refine (valueByte_say HF _).mono ?_
                rintro e w1 ⟨rfl, rfl⟩
                cases f
                · have hRR : R = ([], 0) := by rw [← HL.out.2, HD.out, if_neg (by simp)]
                  subst hRR
                  go_wp2_with fail
                  go_ret2
                  exact ⟨rfl, HQ.out.2.2⟩
                · have HR2 : Hid (quoteL s.data.toList = quoteR (s.data.toList.drop (k + 2)) (acc ++ [d]) (k + 2)) := by rw [HD.out, if_pos rfl]; exact Lib.hid rfl
                  go_wp2_with (refine wpList_push rfl _ _ 23 5 rfl Tryz.underlying23 _ 1 1 infoU8 rfl (by decide) (by decide) w.heap.size _ u4 _ rfl (World.ownsRow.alloc HQ.out.2.1 _) wr.heap.size #[.int .u8 d.toNat] rfl (Bk.new wr _ _) rfl (by simp [Value.oneCell']) (by omega) (by have := HQ.out.2.2.size; simp; omega) ?_; intro v' w2 hown2 hs2 hv2)
                  have hO2 : OwnQ w2 w.heap.size v' (acc ++ [d]) := OwnQ.push hown2 rfl
                  have hS2 : Sm No w w2 := (HQ.out.2.2.alloc (.cells #[.int .u8 d.toNat] 5)).trans hs2 (fun b hb e => by
                    have := (World.ownsRow.lt HQ.out.2.1 b e).1
                    omega)
                  have H2 := Lib.hid (And.intro hO2 hS2)
                  clear hO2 hS2 hown2 hs2 hv2
                  go_wp2_with fail
                  exact ⟨⟨k + 2, acc ++ [d], by omega, by omega, by go_num, by simp; omega, HR2.out, H2.out.1, H2.out.2⟩, by simp [intOf]; omega⟩
              · have hRR : R = ([], 0) := by
                  rw [← HL.out.2, HQ.out.1, hd, List.drop_eq_nil_of_le (by simp; omega), quoteR_esc0]
                subst hRR
                have hne : ((((k : Nat) : Int) + 1) == (s.size : Int)) = true := by simp; omega
                clear hd hc1 hc2
                go_wp2_with fail
                go_ret2
                exact ⟨rfl, HQ.out.2.2⟩
            · have ht2 : ((c.toNat : Int) == 92) = false := u8_ne (n := 92) (by decide) hc2
              obtain ⟨f, hf⟩ : ∃ f, valB c = f := ⟨_, rfl⟩
              have HF := Lib.hid hf
              have hst : quoteL s.data.toList = if f = true then quoteR (s.data.toList.drop (k + 1)) (acc ++ [c]) (k + 1) else ([], 0) := by rw [HQ.out.1, hd, quoteR_byte _ _ _ _ hc1 hc2, hf]
              have HD := Lib.hid hst
              clear hd hf hst hc1 hc2
              go_wp2_with fail
              refine (valueByte_say HF _).mono ?_
              rintro e w1 ⟨rfl, rfl⟩
              cases f
              · have hRR : R = ([], 0) := by rw [← HL.out.2, HD.out, if_neg (by simp)]
                subst hRR
                go_wp2_with fail
                go_ret2
                exact ⟨rfl, HQ.out.2.2⟩
              · have HR2 : Hid (quoteL s.data.toList = quoteR (s.data.toList.drop (k + 1)) (acc ++ [c]) (k + 1)) := by rw [HD.out, if_pos rfl]; exact Lib.hid rfl
                go_wp2_with (refine wpList_push rfl _ _ 23 5 rfl Tryz.underlying23 _ 1 1 infoU8 rfl (by decide) (by decide) w.heap.size _ u4 _ rfl (World.ownsRow.alloc HQ.out.2.1 _) wr.heap.size #[.int .u8 c.toNat] rfl (Bk.new wr _ _) rfl (by simp [Value.oneCell']) (by omega) (by have := HQ.out.2.2.size; simp; omega) ?_; intro v' w2 hown2 hs2 hv2)
                have hO2 : OwnQ w2 w.heap.size v' (acc ++ [c]) := OwnQ.push hown2 rfl
                have hS2 : Sm No w w2 := (HQ.out.2.2.alloc (.cells #[.int .u8 c.toNat] 5)).trans hs2 (fun b hb e => by
                  have := (World.ownsRow.lt HQ.out.2.1 b e).1
                  omega)
                have H2 := Lib.hid (And.intro hO2 hS2)
                clear hO2 hS2 hown2 hs2 hv2
                go_wp2_with fail
                exact ⟨⟨k + 1, acc ++ [c], by omega, by omega, by go_num, by simp; omega, HR2.out, H2.out.1, H2.out.2⟩, by simp [intOf]; omega⟩
        · have hRR : R = ([], 0) := by
            rw [← HL.out.2, HQ.out.1, List.drop_eq_nil_of_le (by simp; omega)]; rfl
          subst hRR
          go_wp2_with fail
          go_ret2
          exact ⟨rfl, HQ.out.2.2⟩
    · have hq1 : ((s[0].toNat : Int) != 34) = true := by
        simp; intro h; exact hq (UInt8.toNat_inj.mp (by have : (34 : UInt8).toNat = 34 := rfl; omega))
      have e0 := drop_at s 0 h2
      rw [List.drop_zero] at e0
      have hL : R = ([], 0) := by rw [← hR, e0, quoteL, if_neg hq]
      subst hL
      clear e0 hq hR h0
      go_enter Tryz.func200, Tryz.ntmps200
      go_wp2_with fail
      all_goals
        go_ret2
        exact ⟨rfl, Sm.refl _ _⟩

end Go.Proofs.YtiglfbimijnpcaaGreatDoor

namespace Go.Proofs.YtiglfbimijnpcaaGreatDoor
open Go.RowKit Go.Proofs

theorem segsT_len (cur l : List UInt8) : ∀ p ∈ segsT cur l, p.length ≤ cur.length + l.length := by
  induction l generalizing cur with
  | nil => intro p hp; cases hp
  | cons c l ih =>
    intro p hp
    rw [segsT] at hp
    split at hp
    · rcases List.mem_cons.1 hp with rfl | hp
      · simp
      · have := ih [] p hp; simp at this ⊢; omega
    · have := ih _ p hp; simp at this ⊢; omega
theorem commaL_len {v p : List UInt8} (h : p ∈ commaL v) : p.length ≤ v.length + 1 := by
  have := segsT_len [] _ p h
  simpa using this
theorem segsT_many (cur l : List UInt8) : (segsT cur l).length ≤ l.length := by
  induction l generalizing cur with
  | nil => simp [segsT]
  | cons c l ih =>
    rw [segsT]
    split
    · have := ih []; simp; omega
    · have := ih (cur ++ [c]); simp; omega
theorem commaL_many (v : List UInt8) : (commaL v).length ≤ v.length + 1 := by
  have := segsT_many [] (v ++ [44])
  simpa [commaL] using this

def TokPost (w : World) (vs : List ByteArray) (e : Ending) (w' : World) : Prop :=
  (∃ r v, tokensL (bytesL vs) = some r ∧ e = .returned (.tuple #[v, .bool true]) ∧ OwnT w' w.heap.size v r ∧ Sm No w w') ∨
  (tokensL (bytesL vs) = none ∧ e = .returned (.tuple #[.slice none 0 0, .bool false]) ∧ Sm No w w')

/-- What is left of the values behind the k-th. -/
def restL (vs : List ByteArray) (k : Nat) : List (List UInt8) := (bytesL (vs.drop k)).flatMap commaL
theorem restL_at {vs : List ByteArray} {k : Nat} (h : k < vs.length) : restL vs k = commaL vs[k].data.toList ++ restL vs (k + 1) := by
  unfold restL bytesL
  rw [List.drop_eq_getElem_cons h]
  rfl
theorem restL_end {vs : List ByteArray} {k : Nat} (h : ¬ k < vs.length) : restL vs k = [] := by
  unfold restL bytesL
  rw [List.drop_eq_nil_of_le (by omega)]
  rfl

def TokRel (w : World) (vs : List ByteArray) (l i : Value) (wr : World) : Prop :=
  ∃ (k : Nat) (acc : List (List UInt8)), k ≤ vs.length ∧ i = .int .i64 k ∧ tokensL (bytesL vs) = toksA acc (restL vs k) ∧ acc.length + (restL vs k).length ≤ 1000000 ∧ OwnT wr w.heap.size l acc ∧ Sm No w wr
theorem rLower_say {s r : ByteArray} (h : Hid ((⟨(lowL s.data.toList).toArray⟩ : ByteArray) = r)) (hs : s.size ≤ 1000000) (w : World) : Calls Tryz.prog 131 #[.string s] w fun e w' => e = .returned (.string r) ∧ Sm No w w' := by
  rw [← h.out]; exact rLower_any s hs w

end Go.Proofs.YtiglfbimijnpcaaGreatDoor

namespace Go.Proofs.YtiglfbimijnpcaaGreatDoor
open Go.RowKit Go.Proofs

def RTokRel2 (w : World) (T : Option (List (List UInt8))) (s : ByteArray) (rest : List (List UInt8)) (l f i : Value) (wr : World) : Prop :=
  ∃ (k fr : Nat) (acc : List (List UInt8)), k ≤ s.size ∧ fr ≤ k ∧ i = .int .i64 k ∧ f = .int .i64 fr ∧ T = toksA acc (segsT ((s.data.toList.take k).drop fr) (s.data.toList.drop k) ++ rest) ∧
    acc.length + (segsT ((s.data.toList.take k).drop fr) (s.data.toList.drop k) ++ rest).length ≤ 1000000 ∧ OwnT wr w.heap.size l acc ∧ Sm No w wr

theorem segs_comma {s : List UInt8} {k fr : Nat} (h : k < s.length) (_ : fr ≤ k) (hc : s[k] = 44) : segsT ((s.take k).drop fr) (s.drop k) = (s.take k).drop fr :: segsT ((s.take (k + 1)).drop (k + 1)) (s.drop (k + 1)) := by
  have e : (s.take (k + 1)).drop (k + 1) = [] := List.drop_eq_nil_of_le (by simp; omega)
  rw [List.drop_eq_getElem_cons h, segsT, if_pos hc, e]
theorem segs_other {s : List UInt8} {k fr : Nat} (h : k < s.length) (hf : fr ≤ k) (hc : s[k] ≠ 44) : segsT ((s.take k).drop fr) (s.drop k) = segsT ((s.take (k + 1)).drop fr) (s.drop (k + 1)) := by
  rw [List.drop_eq_getElem_cons h, segsT, if_neg hc, List.take_succ_eq_append_getElem h, List.drop_append_of_le_length (by simp; omega)]

set_option maxRecDepth 100000 in
set_option maxHeartbeats 8000000 in
theorem rTokens_any (w : World) (A : Option Addr) (c : Nat) (vs : List ByteArray) (hA : SRow w A vs) (hl : vs.length ≤ 1000000) (hs : ∀ s ∈ vs, s.size ≤ 900000) (ht : (restL vs 0).length ≤ 1000000) :
    Calls Tryz.prog 163 #[.slice A vs.length c] w (TokPost w vs) := by
  have HA := Lib.hid (And.intro hA (And.intro hs ht))
  clear hA hs ht
  go_enter Tryz.func163, Tryz.ntmps163
  go_wp2_with fail
  go_loopw [4, 5] (fun l i wr => TokRel w vs l i wr) (fun _ i _ => vs.length - (intOf i).toNat)
  case atStart => exact ⟨0, [], Nat.zero_le _, rfl, rfl, by simpa using HA.out.2.2, World.ownsRow_nil _ _ _ 1, Sm.refl _ _⟩
  case round =>
    obtain ⟨k, acc, hk, rfl, hT, hT2, hO, hsm⟩ := hrel
    obtain ⟨wo, rfl⟩ : ∃ wo : World, wo = wr := ⟨_, rfl⟩
    have HK := Lib.hid (And.intro hT (And.intro hT2 (And.intro hO hsm)))
    clear hT hT2 hO hsm
    by_cases hlt : k < vs.length
    · obtain ⟨bb, off, hAe, hbb, r0⟩ := (HA.out.1.no HK.out.2.2.2) k hlt
      subst hAe
      have s0 := HA.out.2.1 _ (List.getElem_mem hlt)
      have hrest := restL_at hlt
      obtain ⟨s, hsk⟩ : ∃ s, vs[k] = s := ⟨_, rfl⟩
      rw [hsk] at r0 s0 hrest
      have HR := Lib.hid hrest
      have k1 : (0 : Int) ≤ (k : Int) := by omega
      have k2 : (k : Int) < (vs.length : Int) := by omega
      have s1 : s.size + 1 ≤ 1000000 := by omega
      clear hsk hrest
      go_wp2_with fail
      obtain ⟨s', hs'⟩ : ∃ x, s ++ (⟨#[44]⟩ : ByteArray) = x := ⟨_, rfl⟩
      have hsd : s'.data.toList = s.data.toList ++ [44] := by rw [← hs']; simp
      have hsz : s'.size = s.size + 1 := by rw [size_toList', hsd]; simp
      have hsz2 : s'.size ≤ 1000000 := by omega
      have hRel : RTokRel2 w (tokensL (bytesL vs)) s' (restL vs (k + 1)) u4 (.int .i64 0) (.int .i64 0) wo :=
        ⟨0, 0, acc, Nat.zero_le _, Nat.le_refl _, rfl, rfl, by rw [HK.out.1, HR.out, List.take_zero, List.drop_zero, List.drop_zero, hsd]; rfl, by have := HK.out.2.1; rw [HR.out] at this; rw [List.take_zero, List.drop_zero, List.drop_zero, hsd]; exact this, HK.out.2.2.1, HK.out.2.2.2⟩
      have HRel := Lib.hid hRel
      rw [hs']
      clear hs' hsd hsz hRel
      go_loopw [4, 7, 8] (fun l f i wr' => RTokRel2 w (tokensL (bytesL vs)) s' (restL vs (k + 1)) l f i wr') (fun _ _ i _ => s'.size - (intOf i).toNat)
      case atStart => exact HRel.out
      case round =>
        obtain ⟨j, fr, acc2, hj, hfr, rfl, rfl, hT, hT2, hO, hsm⟩ := hrel
        have HJ := Lib.hid (And.intro hT (And.intro hT2 (And.intro hO hsm)))
        clear hT hT2 hO hsm
        by_cases hlt2 : j < s'.size
        · have hlt3 : j < s'.data.toList.length := by rw [← size_toList']; exact hlt2
          have hgs : s'.data.toList[j] = s'[j] := rfl
          by_cases hq : s'[j] = 44
          · have hq2 : ((s'[j].toNat : Int) != 44) = false := by simp [hq]
            obtain ⟨p, hp⟩ : ∃ x, s'.extract fr j = x := ⟨_, rfl⟩
            have hpd : p.data.toList = (s'.data.toList.take j).drop fr := by rw [← hp, Lib.extract_data, List.drop_take]
            have hps : p.size ≤ 1000000 := by rw [size_toList', hpd]; simp; omega
            obtain ⟨r, hr⟩ : ∃ r, (⟨(trimL p.data.toList).toArray⟩ : ByteArray) = r := ⟨_, rfl⟩
            have hrl : r.data.toList = trimL p.data.toList := by rw [← hr]
            have hrs : r.size ≤ 1000000 := by
              have h1 := trimL_le p.data.toList
              rw [size_toList', hrl]
              rw [size_toList'] at hps
              omega
            have hseg : segsT ((s'.data.toList.take j).drop fr) (s'.data.toList.drop j) = p.data.toList :: segsT ((s'.data.toList.take (j + 1)).drop (j + 1)) (s'.data.toList.drop (j + 1)) := by rw [hpd]; exact segs_comma hlt3 hfr (by rw [hgs]; exact hq)
            have HR2 := Lib.hid hr
            have HX := Lib.hid (And.intro hseg hrl)
            have k3 : (0 : Int) ≤ (fr : Int) := by omega
            have k4 : (fr : Int) ≤ (j : Int) := by omega
            have k5 : (j : Int) ≤ (s'.size : Int) := by omega
            clear hr hrl hseg hq hgs hpd
            go_wp2_with fail
            refine (rTrim_say HR2 hps _).mono ?_
            rintro e w2 ⟨rfl, rfl⟩
            by_cases hn : r.data.toList = []
            · have h1 : r.toList = [] := by rw [Go.ByteArray.toList_eq]; exact hn
              have h2 : r.toList.isEmpty = true := by rw [h1]; rfl
              have hT : tokensL (bytesL vs) = toksA acc2 (segsT ((s'.data.toList.take (j + 1)).drop (j + 1)) (s'.data.toList.drop (j + 1)) ++ restL vs (k + 1)) := by rw [HJ.out.1, HX.out.1, List.cons_append, toksA_blank _ _ (by rw [← HX.out.2]; exact hn)]
              have hT2 : acc2.length + (segsT ((s'.data.toList.take (j + 1)).drop (j + 1)) (s'.data.toList.drop (j + 1)) ++ restL vs (k + 1)).length ≤ 1000000 := by have := HJ.out.2.1; rw [HX.out.1, List.cons_append, List.length_cons] at this; omega
              have HT := Lib.hid (And.intro hT hT2)
              clear hT hT2 hn
              go_wp2_with fail
              exact ⟨⟨j + 1, j + 1, acc2, by omega, by omega, by go_num, by go_num, HT.out.1, HT.out.2, HJ.out.2.2.1, HJ.out.2.2.2⟩, by simp [intOf]; omega⟩
            · have h1 : ¬ r.toList = [] := by rw [Go.ByteArray.toList_eq]; exact hn
              have h2 : r.toList.isEmpty = false := by cases hq : r.toList with
                | nil => exact absurd hq h1
                | cons a l => rfl
              obtain ⟨f, hf⟩ : ∃ f, tokL r.data.toList = f := ⟨_, rfl⟩
              have HF := Lib.hid hf
              have HN := Lib.hid hn
              clear hf hn
              go_wp2_with fail
              refine (rIsToken_say HF hrs _).mono ?_
              rintro e w3 ⟨rfl, rfl⟩
              cases f
              · have hT : tokensL (bytesL vs) = none := by rw [HJ.out.1, HX.out.1, List.cons_append, toksA_bad _ _ (by rw [← HX.out.2]; exact HN.out) (by rw [← HX.out.2]; exact HF.out)]
                have HT := Lib.hid hT
                clear hT
                go_wp2_with fail
                go_ret2
                exact Or.inr ⟨HT.out, rfl, HJ.out.2.2.2⟩
              · obtain ⟨lw, hlw⟩ : ∃ x, (⟨(lowL r.data.toList).toArray⟩ : ByteArray) = x := ⟨_, rfl⟩
                have hT : tokensL (bytesL vs) = toksA (acc2 ++ [lowL r.data.toList]) (segsT ((s'.data.toList.take (j + 1)).drop (j + 1)) (s'.data.toList.drop (j + 1)) ++ restL vs (k + 1)) := by
                  rw [HJ.out.1, HX.out.1, List.cons_append, toksA_tok _ _ (by rw [← HX.out.2]; exact HN.out) (by rw [← HX.out.2]; exact HF.out), HX.out.2]
                have hT2 : (acc2 ++ [lowL r.data.toList]).length + (segsT ((s'.data.toList.take (j + 1)).drop (j + 1)) (s'.data.toList.drop (j + 1)) ++ restL vs (k + 1)).length ≤ 1000000 := by have := HJ.out.2.1; rw [HX.out.1, List.cons_append, List.length_cons] at this; rw [List.length_append]; simp only [List.length_singleton]; omega
                have ha2 : acc2.length ≤ 1000000 := by have := HJ.out.2.1; omega
                have HT := Lib.hid (And.intro hT hT2)
                have HLW := Lib.hid hlw
                clear hT hT2 hlw
                go_wp2_with fail
                refine (rLower_say HLW hrs _).mono ?_
                rintro e w4 ⟨rfl, hs4⟩
                have HW4 := Lib.hid (And.intro (own_row_sm HJ.out.2.2.1 hs4 (fun _ _ h => h)) (HJ.out.2.2.2.trans hs4 (fun _ _ h => h)))
                clear hs4
                go_wp2_with (refine wpList_push rfl _ _ 82 9 rfl Tryz.underlying82 _ 1 16 infoStr rfl (by decide) (by decide) w.heap.size _ u4 _ rfl (World.ownsRow.alloc HW4.out.1 _) w4.heap.size #[.string lw] rfl (Bk.new w4 _ _) rfl (by simp [Value.oneCell']) ha2 (by have := HW4.out.2.size; simp; omega) ?_; intro v' w5 hown5 hs5 hv5)
                have hO5 : OwnT w5 w.heap.size v' (acc2 ++ [lowL r.data.toList]) := by
                  refine OwnT.push ?_
                  rw [strV, HLW.out]
                  exact hown5
                have hS5 : Sm No w w5 := (HW4.out.2.alloc (.cells #[.string lw] 9)).trans hs5 (fun b hb e => by
                  have := (World.ownsRow.lt HW4.out.1 b e).1
                  omega)
                have H5 := Lib.hid (And.intro hO5 hS5)
                clear hO5 hS5 hown5 hs5 hv5
                go_wp2_with fail
                exact ⟨⟨j + 1, j + 1, acc2 ++ [lowL r.data.toList], by omega, by omega, by go_num, by go_num, HT.out.1, HT.out.2, H5.out.1, H5.out.2⟩, by simp [intOf]; omega⟩
          · have hq2 : ((s'[j].toNat : Int) != 44) = true := by
              simp; intro h; exact hq (UInt8.toNat_inj.mp (by have : (44 : UInt8).toNat = 44 := rfl; omega))
            have hseg := segs_other (fr := fr) hlt3 hfr (by rw [hgs]; exact hq)
            have hT := HJ.out.1
            have hT2 := HJ.out.2.1
            rw [hseg] at hT hT2
            have HT := Lib.hid (And.intro hT hT2)
            clear hseg hT hT2 hq hgs
            go_wp2_with fail
            exact ⟨⟨j + 1, fr, acc2, by omega, by omega, by go_num, rfl, HT.out.1, HT.out.2, HJ.out.2.2.1, HJ.out.2.2.2⟩, by simp [intOf]; omega⟩
        · have hj2 : s'.data.toList.drop j = [] := List.drop_eq_nil_of_le (by rw [← size_toList']; omega)
          have hT := HJ.out.1
          have hT2 := HJ.out.2.1
          rw [hj2] at hT hT2
          have HT := Lib.hid (And.intro hT hT2)
          clear hT hT2 hj2
          go_wp2_with fail
          exact ⟨⟨k + 1, acc2, by omega, by go_num, HT.out.1, HT.out.2, HJ.out.2.2.1, HJ.out.2.2.2⟩, by simp [intOf]; omega⟩
    · have hend : tokensL (bytesL vs) = some acc := by rw [HK.out.1, restL_end hlt]; rfl
      have HE := Lib.hid hend
      clear hend
      go_wp2_with fail
      go_ret2
      exact Or.inl ⟨acc, _, HE.out, rfl, HK.out.2.2.1, HK.out.2.2.2⟩
end Go.Proofs.YtiglfbimijnpcaaGreatDoor

namespace Go.Proofs.YtiglfbimijnpcaaGreatDoor
open Go.RowKit Go.Proofs

theorem while_take {p : UInt8 → Bool} {l : List UInt8} {k : Nat} (hk : k ≤ l.length) (h1 : ∀ c ∈ l.take k, p c = true) (h2 : ∀ h : k < l.length, p l[k] = false) : l.takeWhile p = l.take k := by
  induction l generalizing k with
  | nil => simp at hk; subst hk; rfl
  | cons c l ih =>
    cases k with
    | zero =>
      have := h2 (by simp)
      simp at this
      simp [this]
    | succ k =>
      have hc : p c = true := h1 c (by simp)
      rw [List.takeWhile_cons, if_pos hc, List.take_succ_cons]
      congr 1
      refine ih (by simpa using hk) (fun d hd => h1 d (by simp [hd])) (fun h => ?_)
      have := h2 (by simpa using h)
      simpa using this
theorem drop_while {p : UInt8 → Bool} {l : List UInt8} {k : Nat} (hk : k ≤ l.length) (h1 : ∀ c ∈ l.take k, p c = true) (h2 : ∀ h : k < l.length, p l[k] = false) : l.dropWhile p = l.drop k := by
  have h := while_take hk h1 h2
  have e := List.takeWhile_append_dropWhile (p := p) (l := l)
  rw [h] at e
  have e2 := List.take_append_drop k l
  rw [← e2] at e
  conv at e => lhs; rw [e2]
  exact List.append_cancel_left e
def PreRel (p : UInt8 → Bool) (s : ByteArray) (i : Value) : Prop := ∃ k : Nat, k ≤ s.size ∧ i = .int .i64 k ∧ ∀ c ∈ s.data.toList.take k, p c = true
theorem pre_step {p : UInt8 → Bool} {s : ByteArray} {k : Nat} (h : ∀ c ∈ s.data.toList.take k, p c = true) (hk : k < s.size) (hp : p s[k] = true) : ∀ c ∈ s.data.toList.take (k + 1), p c = true := by
  intro c hc
  rw [take_snoc s k hk, List.mem_append] at hc
  rcases hc with hc | hc
  · exact h c hc
  · obtain rfl := List.mem_singleton.1 hc; exact hp
theorem tokenByte_say {c : UInt8} {r : Bool} (h : Hid (tokB c = r)) (w : World) : Calls Tryz.prog 90 #[.int .u8 c.toNat] w fun e w' => e = .returned (.bool r) ∧ w = w' := by
  rw [← h.out]; exact tokenByte_any c w

set_option maxHeartbeats 2000000 in
theorem rToken_any (s : ByteArray) (hs : s.size ≤ 1000000) (w : World) :
    Calls Tryz.prog 199 #[.string s] w fun e w' => ∃ k : Nat, k ≤ s.size ∧ s.data.toList.take k = tokPre s.data.toList ∧ e = .returned (.int .i64 k) ∧ w = w' := by
  go_enter Tryz.func199, Tryz.ntmps199
  go_wp2_with fail
  go_loop [3] (fun i => PreRel tokB s i) (fun i => s.size - (intOf i).toNat)
  case atStart => exact ⟨0, Nat.zero_le _, rfl, by simp⟩
  case round =>
    obtain ⟨k, hk, rfl, hall⟩ := hrel
    have HA := Lib.hid hall
    clear hall
    have hkl : k ≤ s.data.toList.length := by rw [← size_toList']; exact hk
    by_cases hlt : k < s.size
    · obtain ⟨f, hf⟩ : ∃ f, tokB s[k] = f := ⟨_, rfl⟩
      have HF := Lib.hid hf
      clear hf
      go_wp2_with fail
      refine (tokenByte_say HF _).mono ?_
      rintro e w1 ⟨rfl, rfl⟩
      cases f
      · have h := while_take (p := tokB) hkl HA.out (fun h => HF.out)
        have HW := Lib.hid h
        clear h
        go_wp2_with fail
        go_ret
        exact ⟨k, hk, HW.out.symm, rfl, rfl⟩
      · have HN := Lib.hid (pre_step HA.out hlt HF.out)
        go_wp2_with fail
        exact ⟨⟨k + 1, by omega, by go_num, HN.out⟩, by simp [intOf]; omega⟩
    · have h := while_take (p := tokB) hkl HA.out (fun h => absurd h (by rw [← size_toList']; exact hlt))
      have HW := Lib.hid h
      clear h
      go_wp2_with fail
      go_ret
      exact ⟨k, hk, HW.out.symm, rfl, rfl⟩

set_option maxHeartbeats 2000000 in
theorem rBlanks_any (s : ByteArray) (hs : s.size ≤ 1000000) (w : World) :
    Calls Tryz.prog 198 #[.string s] w fun e w' => ∃ k : Nat, k ≤ s.size ∧ s.data.toList.drop k = dropL s.data.toList ∧ e = .returned (.int .i64 k) ∧ w = w' := by
  go_enter Tryz.func198, Tryz.ntmps198
  go_wp2_with fail
  go_loop [3] (fun i => PreRel blB s i) (fun i => s.size - (intOf i).toNat)
  case atStart => exact ⟨0, Nat.zero_le _, rfl, by simp⟩
  case round =>
    obtain ⟨k, hk, rfl, hall⟩ := hrel
    have HA := Lib.hid hall
    clear hall
    have hkl : k ≤ s.data.toList.length := by rw [← size_toList']; exact hk
    by_cases hlt : k < s.size
    · obtain ⟨f, hf⟩ : ∃ f, blB s[k] = f := ⟨_, rfl⟩
      have hb := blB_iff s[k]
      cases f
      · have h9 : ((s[k].toNat : Int) == 9) = false := by
          simp; intro e; rw [hb.2 (Or.inl (by omega))] at hf; cases hf
        have h32 : ((s[k].toNat : Int) == 32) = false := by
          simp; intro e; rw [hb.2 (Or.inr (by omega))] at hf; cases hf
        have h := drop_while (p := blB) hkl HA.out (fun h => hf)
        have HW := Lib.hid h
        clear h hf hb
        go_wp2_with fail
        go_ret
        exact ⟨k, hk, HW.out.symm, rfl, rfl⟩
      · have HN := Lib.hid (pre_step HA.out hlt hf)
        have hc := hb.1 hf
        clear hf hb
        rcases hc with hc | hc
        · have h9 : ((s[k].toNat : Int) == 9) = true := by rw [hc]; rfl
          clear hc
          go_wp2_with fail
          exact ⟨⟨k + 1, by omega, by go_num, HN.out⟩, by simp [intOf]; omega⟩
        · have h9 : ((s[k].toNat : Int) == 9) = false := by rw [hc]; rfl
          have h32 : ((s[k].toNat : Int) == 32) = true := by rw [hc]; rfl
          clear hc
          go_wp2_with fail
          exact ⟨⟨k + 1, by omega, by go_num, HN.out⟩, by simp [intOf]; omega⟩
    · have h := drop_while (p := blB) hkl HA.out (fun h => absurd h (by rw [← size_toList']; exact hlt))
      have HW := Lib.hid h
      clear h
      go_wp2_with fail
      go_ret
      exact ⟨k, hk, HW.out.symm, rfl, rfl⟩

end Go.Proofs.YtiglfbimijnpcaaGreatDoor

namespace Go.Proofs.YtiglfbimijnpcaaGreatDoor
open Go.RowKit Go.Proofs

theorem nil_iff (s : ByteArray) : s.data.toList = [] ↔ s.size = 0 := by
  rw [size_toList']; exact ⟨fun h => by rw [h]; rfl, fun h => List.eq_nil_of_length_eq_zero h⟩
theorem str_nil {s : ByteArray} (h : s.size = 0) : s.toList = [] ∧ s.toList.isEmpty = true := by
  have h1 : s.toList = [] := by rw [Go.ByteArray.toList_eq]; exact (nil_iff s).2 h
  exact ⟨h1, by rw [h1]; rfl⟩
theorem str_cons {s : ByteArray} (h : ¬ s.size = 0) : ¬ s.toList = [] ∧ s.toList.isEmpty = false := by
  have h1 : ¬ s.toList = [] := by rw [Go.ByteArray.toList_eq]; exact fun e => h ((nil_iff s).1 e)
  exact ⟨h1, by cases hq : s.toList with
    | nil => exact absurd hq h1
    | cons a l => rfl⟩
theorem paramL_eq {c : UInt8} {r : List UInt8} (h : c = 59) : paramL (c :: r) = if tokPre (dropL r) = [] then none else paramR (tokPre (dropL r)) ((dropL r).drop (tokPre (dropL r)).length) := by
  rw [paramL, if_pos h]
theorem dropL_le (l : List UInt8) : (dropL l).length ≤ l.length := (List.dropWhile_sublist blB (l := l)).length_le

end Go.Proofs.YtiglfbimijnpcaaGreatDoor

namespace Go.Proofs.YtiglfbimijnpcaaGreatDoor
open Go.RowKit Go.Proofs

abbrev Par := List UInt8 × List UInt8
def parCells (l : List Par) : List Value := l.flatMap fun p => [strV p.1, strV p.2]
theorem parCells_snoc (l : List Par) (p : Par) : parCells (l ++ [p]) = parCells l ++ [strV p.1, strV p.2] := by simp [parCells]
/-- v is a slice of a block of its own, not before block B, that holds just these parameters. -/
def OwnP (t : TypeId) (w : World) (B : Nat) (v : Value) (l : List Par) : Prop := w.ownsRow B t 2 v l.length (parCells l)
theorem OwnP.no {t : TypeId} {w w' : World} {B : Nat} {v : Value} {l : List Par} (h : OwnP t w B v l) (hs : Sm No w w') : OwnP t w' B v l := own_row_sm h hs (fun _ _ h => h)
def ParamsPost (t : TypeId) (s : ByteArray) (w : World) (e : Ending) (w' : World) : Prop :=
  (∃ r v, paramsL s.data.toList = some r ∧ e = .returned (.tuple #[v, .bool true]) ∧ OwnP t w' w.heap.size v r ∧ r.length ≤ 16 ∧ Sm No w w') ∨
  (paramsL s.data.toList = none ∧ e = .returned (.tuple #[.slice none 0 0, .bool false]) ∧ Sm No w w')

theorem paramR_len {n l r : List UInt8} {p : Par} (h : paramR n l = some (p, r)) : r.length ≤ l.length := by
  cases l with
  | nil => simp only [paramR, Option.some.injEq, Prod.mk.injEq] at h; rw [← h.2]; exact Nat.le_refl _
  | cons d s =>
    rw [paramR] at h
    split at h
    · split at h
      · split at h
        · cases h
        · simp only [Option.some.injEq, Prod.mk.injEq] at h; rw [← h.2]; simp; omega
      · simp only [Option.some.injEq, Prod.mk.injEq] at h; rw [← h.2]; simp; omega
    · simp only [Option.some.injEq, Prod.mk.injEq] at h; rw [← h.2]; exact Nat.le_refl _
theorem paramL_len {l r : List UInt8} {p : Par} (h : paramL l = some (p, r)) : r.length < l.length := by
  cases l with
  | nil => simp [paramL] at h
  | cons c l =>
    rw [paramL] at h
    split at h
    · split at h
      · cases h
      · have h1 := paramR_len h
        have h2 := dropL_le l
        simp at h1 ⊢; omega
    · cases h

theorem paramsF_end {k : Nat} {acc : List Par} {s : List UInt8} (h : dropL s = []) : paramsF (k + 1) acc s = some acc := by rw [paramsF, if_pos h]
theorem paramsF_none {k : Nat} {acc : List Par} {s : List UInt8} (h : dropL s ≠ []) (hp : paramL (dropL s) = none) : paramsF (k + 1) acc s = none := by rw [paramsF, if_neg h, hp]
theorem paramsF_full {acc : List Par} {s : List UInt8} {x : Par × List UInt8} (h : dropL s ≠ []) (hp : paramL (dropL s) = some x) : paramsF 1 acc s = none := by rw [paramsF, if_neg h, hp]; rfl
theorem paramsF_some {k : Nat} {acc : List Par} {s r : List UInt8} {p : Par} (h : dropL s ≠ []) (hp : paramL (dropL s) = some (p, r)) (hk : k ≠ 0) : paramsF (k + 1) acc s = paramsF k (acc ++ [p]) r := by rw [paramsF, if_neg h, hp]; show (if k = 0 then none else _) = _; rw [if_neg hk]

def ParRel (t : TypeId) (s0 : ByteArray) (w : World) (s l : Value) (wr : World) : Prop :=
  ∃ (x : ByteArray) (acc : List Par), s = .string x ∧ x.size ≤ 1000000 ∧ acc.length ≤ 16 ∧ paramsL s0.data.toList = paramsF (17 - acc.length) acc x.data.toList ∧ OwnP t wr w.heap.size l acc ∧ Sm No w wr

end Go.Proofs.YtiglfbimijnpcaaGreatDoor

namespace Go.Proofs.YtiglfbimijnpcaaGreatDoor
open Go.RowKit Go.Proofs

theorem paramsF_16 {acc : List Par} {s : List UInt8} (h : dropL s ≠ []) : paramsF 1 acc s = none := by
  cases hp : paramL (dropL s) with
  | none => exact paramsF_none h hp
  | some x => exact paramsF_full h hp
theorem token_quote {u : List UInt8} (h : tokPre u ≠ []) : (quoteL u).2 = 0 := by
  cases u with
  | nil => rfl
  | cons c l =>
    by_cases hc : c = 34
    · subst hc
      exact absurd (show tokPre (34 :: l) = [] by unfold tokPre; rw [List.takeWhile_cons, if_neg (by decide)]) h
    · rw [quoteL, if_neg hc]
theorem rQuoted_say {s : ByteArray} {R : List UInt8 × Nat} (h : Hid (quoteL s.data.toList = R)) (hs : s.size ≤ 1000000) (w : World) : Calls Tryz.prog 200 #[.string s] w fun e w' => e = .returned (.tuple #[.string ⟨R.1.toArray⟩, .int .i64 (R.2 : Int)]) ∧ Sm No w w' := by
  rw [← h.out]; exact rQuoted_any s hs w
theorem infoRPar : (Tryz.prog.info? 235).map (fun i => (i.zero, i.size, i.bytes)) = some (some (.agg #[.string ⟨#[]⟩, .string ⟨#[]⟩]), 2, 32) := by kernel_rfl

set_option maxRecDepth 100000 in
set_option maxHeartbeats 16000000 in
theorem rParams_any (s0 : ByteArray) (hs0 : s0.size ≤ 1000000) (w : World) : Calls Tryz.prog 183 #[.string s0] w (ParamsPost 235 s0 w) := by
  go_enter Tryz.func183, Tryz.ntmps183
  go_wp2_with fail
  go_loopw [0, 4] (fun s l wr => ParRel 235 s0 w s l wr) (fun s _ _ => strLen s)
  case atStart => exact ⟨s0, [], rfl, hs0, by simp, rfl, World.ownsRow_nil _ _ _ 2, Sm.refl _ _⟩
  case round =>
    obtain ⟨x, acc, rfl, hx, hacc, hP, hO, hsm⟩ := hrel
    obtain ⟨k, hk⟩ : ∃ k, 17 - acc.length = k + 1 := ⟨16 - acc.length, by omega⟩
    rw [hk] at hP
    obtain ⟨A4, c4, hv4, _⟩ := own_rowC hO
    subst hv4
    have HP := Lib.hid (And.intro hP (And.intro hO hsm))
    clear hP hO hsm
    go_wp2_with fail
    refine (rBlanks_any x hx _).mono ?_
    rintro e w1 ⟨k1, hk1, hkd, rfl, rfl⟩
    obtain ⟨r, hr⟩ : ∃ r, x.extract k1 x.size = r := ⟨_, rfl⟩
    have hrd : r.data.toList = dropL x.data.toList := by rw [← hr, Lib.extract_to_end, hkd]
    have hrx : r.size ≤ x.size := by rw [← hr]; simp
    have q1 : (0 : Int) ≤ (k1 : Int) := by omega
    have q2 : (k1 : Int) ≤ (x.size : Int) := by omega
    have HRD := Lib.hid hrd
    clear hkd hrd
    by_cases h0 : r.size = 0
    · obtain ⟨g1, g2⟩ := str_nil h0
      have hp : paramsL s0.data.toList = some acc := by rw [HP.out.1, paramsF_end (by rw [← HRD.out]; exact (nil_iff r).2 h0)]
      have HE := Lib.hid hp
      clear hp
      go_wp2_with fail
      go_ret2
      exact Or.inl ⟨acc, _, HE.out, rfl, HP.out.2.1, hacc, HP.out.2.2⟩
    · obtain ⟨g1, g2⟩ := str_cons h0
      have hne : dropL x.data.toList ≠ [] := by rw [← HRD.out]; exact fun e => h0 ((nil_iff r).1 e)
      have HN := Lib.hid hne
      have hrz : 0 < r.size := by omega
      have hrz1 : (1 : Int) ≤ (r.size : Int) := by omega
      have hrl := drop_at r 0 hrz
      rw [List.drop_zero] at hrl
      clear hne
      by_cases hq : r[0] = 59
      · have hq1 : ((r[0].toNat : Int) != 59) = false := by simp [hq]
        by_cases h16 : acc.length = 16
        · have hp : paramsL s0.data.toList = none := by
            have e : k = 0 := by omega
            subst e
            rw [HP.out.1, paramsF_16 HN.out]
          have HE := Lib.hid hp
          have h16' : (((acc.length : Nat) : Int) == 16) = true := by rw [h16]; rfl
          clear hp hrl hq
          go_wp2_with fail
          go_ret2
          exact Or.inr ⟨HE.out, rfl, HP.out.2.2⟩
        · have h16' : (((acc.length : Nat) : Int) == 16) = false := by simp; omega
          have hpe := paramL_eq (r := r.data.toList.drop 1) hq
          rw [← hrl, HRD.out] at hpe
          obtain ⟨y, hy⟩ : ∃ y, r.extract 1 r.size = y := ⟨_, rfl⟩
          have hyd : y.data.toList = r.data.toList.drop 1 := by rw [← hy, Lib.extract_to_end]
          have hys : y.size + 1 ≤ r.size := by rw [← hy]; simp; omega
          rw [← HRD.out, ← hyd] at hpe
          have HPE := Lib.hid hpe
          clear hpe hyd hrl hq
          go_wp2_with fail
          refine (rBlanks_any y (by omega) _).mono ?_
          rintro e w2 ⟨k2, hk2, hkd2, rfl, rfl⟩
          obtain ⟨z, hz⟩ : ∃ z, y.extract k2 y.size = z := ⟨_, rfl⟩
          have hzd : z.data.toList = dropL y.data.toList := by rw [← hz, Lib.extract_to_end, hkd2]
          have hzy : z.size ≤ y.size := by rw [← hz]; simp
          have q3 : (0 : Int) ≤ (k2 : Int) := by omega
          have q4 : (k2 : Int) ≤ (y.size : Int) := by omega
          have hpe := HPE.out
          rw [← hzd] at hpe
          have HPE1 := Lib.hid hpe
          clear hkd2 hzd hpe
          go_wp2_with fail
          refine (rToken_any z (by omega) _).mono ?_
          rintro e w2 ⟨n, hn, hnt, rfl, rfl⟩
          have hnl : (tokPre z.data.toList).length = n := by rw [← hnt]; simp; omega
          have q5 : (0 : Int) ≤ (n : Int) := by omega
          have q6 : (n : Int) ≤ (z.size : Int) := by omega
          have HNT := Lib.hid (And.intro hnt hnl)
          clear hnt hnl
          by_cases hn0 : n = 0
          · subst hn0
            have hp : paramsL s0.data.toList = none := by
              rw [HP.out.1, paramsF_none HN.out (by rw [← HRD.out, HPE1.out, if_pos (List.eq_nil_of_length_eq_zero HNT.out.2)])]
            have HE := Lib.hid hp
            clear hp
            go_wp2_with fail
            go_ret2
            exact Or.inr ⟨HE.out, rfl, HP.out.2.2⟩
          · have hn0' : (((n : Nat) : Int) == 0) = false := by simpa using hn0
            obtain ⟨nm, hnm⟩ : ∃ x, z.extract 0 n = x := ⟨_, rfl⟩
            have hnd : nm.data.toList = tokPre z.data.toList := by rw [← hnm, Lib.extract_data, List.drop_zero, ← HNT.out.1]; simp
            obtain ⟨t, ht⟩ : ∃ x, z.extract n z.size = x := ⟨_, rfl⟩
            have htd : t.data.toList = z.data.toList.drop n := by rw [← ht, Lib.extract_to_end]
            have hts : t.size ≤ z.size := by rw [← ht]; simp
            have hpe := HPE1.out
            rw [if_neg (fun e => hn0 (by rw [← HNT.out.2, e]; rfl)), HNT.out.2, ← htd, ← hnd] at hpe
            have HPE2 := Lib.hid hpe
            have hb0 := Bk.new wr 235 #[.string nm, .string ⟨#[]⟩]
            have HB0 := Lib.hid (And.intro hb0 (And.intro (World.ownsRow.alloc HP.out.2.1 (.cells #[.string nm, .string ⟨#[]⟩] 235)) (HP.out.2.2.alloc (.cells #[.string nm, .string ⟨#[]⟩] 235))))
            clear hpe hnd htd hb0
            by_cases ht0 : t.size = 0
            · obtain ⟨g3, g4⟩ := str_nil ht0
              have hyes : paramL (dropL x.data.toList) = some ((nm.data.toList, (⟨#[]⟩ : ByteArray).data.toList), t.data.toList) := by rw [← HRD.out, HPE2.out, (nil_iff t).2 ht0]; rfl
              have HYES := Lib.hid hyes
              clear hyes
              have hyes := HYES.out
              have hql : t.size < x.size := by
                have h1 := paramL_len hyes
                have h2 := dropL_le x.data.toList
                rw [size_toList', size_toList' x]
                omega
              have hp : paramsL s0.data.toList = paramsF (17 - (acc ++ [(nm.data.toList, (⟨#[]⟩ : ByteArray).data.toList)]).length) (acc ++ [(nm.data.toList, (⟨#[]⟩ : ByteArray).data.toList)]) t.data.toList := by
                rw [HP.out.1, paramsF_some HN.out hyes (by omega)]
                congr 1
                simp; omega
              have HE := Lib.hid hp
              clear hp hyes
              go_wp2_with (refine wpList_push rfl _ _ 216 235 rfl Tryz.underlying216 _ 2 32 infoRPar rfl (by decide) (by decide) w.heap.size _ (.slice A4 acc.length c4) _ rfl (World.ownsRow.alloc HB0.out.2.1 _) _ #[.string nm, .string (⟨#[]⟩ : ByteArray)] rfl (Bk.newAt _ _ _ (by simp)) rfl (by simp [Value.oneCell']) (by omega) (by have := HB0.out.2.2.size; simp at this ⊢; omega) ?_; intro v' w5 hown5 hs5 hv5)
              have hO5 : OwnP 235 w5 w.heap.size v' (acc ++ [(nm.data.toList, (⟨#[]⟩ : ByteArray).data.toList)]) := by
                unfold OwnP
                rw [parCells_snoc, List.length_append]
                exact hown5
              have hS5 : Sm No w w5 := (HB0.out.2.2.alloc (.cells #[.string nm, .string (⟨#[]⟩ : ByteArray)] 235)).trans hs5 (fun b hb e => by
                have := (World.ownsRow.lt HB0.out.2.1 b e).1
                omega)
              have H5 := Lib.hid (And.intro hO5 hS5)
              clear hO5 hS5 hown5 hs5 hv5
              go_wp2_with fail
              exact ⟨⟨t, acc ++ [(nm.data.toList, (⟨#[]⟩ : ByteArray).data.toList)], rfl, by omega, by simp; omega, HE.out, H5.out.1, H5.out.2⟩, by simp [strLen]; omega⟩
            · obtain ⟨g3, g4⟩ := str_cons ht0
              have htz : 0 < t.size := by omega
              have htz1 : (1 : Int) ≤ (t.size : Int) := by omega
              have htl := drop_at t 0 htz
              rw [List.drop_zero] at htl
              by_cases hq2 : t[0] = 61
              · have hq3 : ((t[0].toNat : Int) == 61) = true := by simp [hq2]
                obtain ⟨u, hu⟩ : ∃ x, t.extract 1 t.size = x := ⟨_, rfl⟩
                have hud : u.data.toList = t.data.toList.drop 1 := by rw [← hu, Lib.extract_to_end]
                have hus : u.size ≤ 1000000 := by rw [← hu]; simp; omega
                have hpe := HPE2.out
                rw [htl, paramR, if_pos hq2, ← hud, HRD.out] at hpe
                have HPE3 := Lib.hid hpe
                clear hud htl hq2 hpe
                go_wp2_with fail
                obtain ⟨wa, hwa⟩ : ∃ wa, wr.alloc (.cells #[.string nm, .string ⟨#[]⟩] 235) = wa := ⟨_, rfl⟩
                rw [hwa] at HB0 ⊢
                clear hwa
                refine (rToken_any u hus _).mono ?_
                rintro e w2 ⟨n2, hn2, hnt2, rfl, rfl⟩
                have q7 : (0 : Int) ≤ (n2 : Int) := by omega
                have q8 : (n2 : Int) ≤ (u.size : Int) := by omega
                have hnl2 : (tokPre u.data.toList).length = n2 := by rw [← hnt2]; simp; omega
                obtain ⟨v, hv⟩ : ∃ x, u.extract 0 n2 = x := ⟨_, rfl⟩
                have hvd : v.data.toList = tokPre u.data.toList := by rw [← hv, Lib.extract_data, List.drop_zero, ← hnt2]; simp
                have d0 := HB0.out.1.at 0 (v := .string nm) rfl
                have d1 := HB0.out.1.at 1 (v := .string ⟨#[]⟩) rfl
                have y1 := HB0.out.1.fz 1
                have hbV : Bk (wa.setCell ⟨wr.heap.size, 1, none⟩ (.string v)) wr.heap.size 235 #[.string nm, .string v] := (HB0.out.1.set 1 _).eq (by rfl)
                have hne4 : ∀ b, (Value.slice A4 acc.length c4).ownBlock = some b → b ≠ wr.heap.size := fun b hb e => by
                  have := (World.ownsRow.lt HP.out.2.1 b hb).2
                  omega
                have hoV := own_row_sm HB0.out.2.1 ((Sm.refl (fun x => x = wr.heap.size) wa).set1 1 (.string v)) hne4
                have hwr := HP.out.2.2.size
                have hsV := HB0.out.2.2.setN (g := wr.heap.size) hwr 1 (.string v)
                have HB1 := Lib.hid (And.intro hbV (And.intro hoV hsV))
                have HV := Lib.hid (And.intro hvd hnl2)
                have HNE := Lib.hid hne4
                clear hbV hoV hsV hvd hnl2 hnt2 hne4
                by_cases hn3 : n2 = 0
                · subst hn3
                  obtain rfl : v = ByteArray.empty := by rw [← hv]; simp
                  clear hv
                  obtain ⟨⟨Q, m⟩, hQ⟩ : ∃ R, quoteL u.data.toList = R := ⟨_, rfl⟩
                  have hpe := HPE3.out
                  rw [hQ, if_pos (List.eq_nil_of_length_eq_zero HV.out.2)] at hpe
                  have HPE4 := Lib.hid hpe
                  have HQ := Lib.hid hQ
                  have hmu : m ≤ u.size := by
                    by_cases hm : m = 0
                    · omega
                    · rw [size_toList']; exact (quoteL_cut hQ hm).1
                  clear hpe hQ
                  go_wp2_with fail
                  obtain ⟨wb, hwb⟩ : ∃ wb, wa.setCell ⟨wr.heap.size, 1, none⟩ (.string ByteArray.empty) = wb := ⟨_, rfl⟩
                  rw [hwb] at HB1 ⊢
                  clear hwb d0 d1 y1
                  refine (rQuoted_say HQ hus _).mono ?_
                  rintro e w6 ⟨rfl, hs6⟩
                  have H6 := Lib.hid (And.intro (HB1.out.1.sm hs6 (fun h => h)) (And.intro (own_row_sm HB1.out.2.1 hs6 (fun _ _ h => h)) (HB1.out.2.2.trans hs6 (fun _ _ h => h))))
                  have d2 := H6.out.1.at 1 (v := .string ByteArray.empty) rfl
                  have y2 := H6.out.1.fz 1
                  have hbQ : Bk (w6.setCell ⟨wr.heap.size, 1, none⟩ (.string ⟨Q.toArray⟩)) wr.heap.size 235 #[.string nm, .string ⟨Q.toArray⟩] := (H6.out.1.set 1 _).eq (by rfl)
                  have hoQ := own_row_sm H6.out.2.1 ((Sm.refl (fun x => x = wr.heap.size) w6).set1 1 (.string ⟨Q.toArray⟩)) HNE.out
                  have hsQ := H6.out.2.2.setN (g := wr.heap.size) hwr 1 (.string ⟨Q.toArray⟩)
                  have HBQ := Lib.hid (And.intro hbQ (And.intro hoQ hsQ))
                  clear hs6 hbQ hoQ hsQ
                  by_cases hm : m = 0
                  · subst hm
                    have hp : paramsL s0.data.toList = none := by
                      rw [HP.out.1, paramsF_none HN.out (by rw [HPE4.out, if_pos rfl])]
                    have HE := Lib.hid hp
                    clear hp
                    go_wp2_with fail
                    go_ret2
                    exact Or.inr ⟨HE.out, rfl, HBQ.out.2.2⟩
                  · have hm2 : (((m : Nat) : Int) == 0) = false := by simpa using hm
                    have hm3 : (m : Int) ≤ (u.size : Int) := by omega
                    have hm4 : (0 : Int) ≤ (m : Int) := by omega
                    obtain ⟨q, hqq⟩ : ∃ x, u.extract m u.size = x := ⟨_, rfl⟩
                    have hyes : paramL (dropL x.data.toList) = some ((nm.data.toList, (⟨Q.toArray⟩ : ByteArray).data.toList), q.data.toList) := by
                      rw [HPE4.out, if_neg hm, ← hqq, Lib.extract_to_end]
                    have HYES := Lib.hid hyes
                    clear hyes
                    have d3 := H6.out.1.at 0 (v := .string nm) rfl
                    have hyes := HYES.out
                    have hql : q.size < x.size := by
                      have h1 := paramL_len hyes
                      have h2 := dropL_le x.data.toList
                      rw [size_toList', size_toList' x]
                      omega
                    have hp : paramsL s0.data.toList = paramsF (17 - (acc ++ [(nm.data.toList, (⟨Q.toArray⟩ : ByteArray).data.toList)]).length) (acc ++ [(nm.data.toList, (⟨Q.toArray⟩ : ByteArray).data.toList)]) q.data.toList := by
                      rw [HP.out.1, paramsF_some HN.out hyes (by omega)]
                      congr 1
                      simp; omega
                    have HE := Lib.hid hp
                    clear hp hyes
                    go_wp2_with (refine wpList_push rfl _ _ 216 235 rfl Tryz.underlying216 _ 2 32 infoRPar rfl (by decide) (by decide) w.heap.size _ (.slice A4 acc.length c4) _ rfl (World.ownsRow.alloc HBQ.out.2.1 _) _ #[.string nm, .string (⟨Q.toArray⟩ : ByteArray)] rfl (Bk.newAt _ _ _ (by simp)) rfl (by simp [Value.oneCell']) (by omega) (by have := HBQ.out.2.2.size; simp at this ⊢; omega) ?_; intro v' w5 hown5 hs5 hv5)
                    have hO5 : OwnP 235 w5 w.heap.size v' (acc ++ [(nm.data.toList, (⟨Q.toArray⟩ : ByteArray).data.toList)]) := by
                      unfold OwnP
                      rw [parCells_snoc, List.length_append]
                      exact hown5
                    have hS5 : Sm No w w5 := (HBQ.out.2.2.alloc (.cells #[.string nm, .string (⟨Q.toArray⟩ : ByteArray)] 235)).trans hs5 (fun b hb e => by
                      have := (World.ownsRow.lt HBQ.out.2.1 b e).1
                      omega)
                    have H5 := Lib.hid (And.intro hO5 hS5)
                    clear hO5 hS5 hown5 hs5 hv5
                    go_wp2_with fail
                    exact ⟨⟨q, acc ++ [(nm.data.toList, (⟨Q.toArray⟩ : ByteArray).data.toList)], rfl, by omega, by simp; omega, HE.out, H5.out.1, H5.out.2⟩, by simp [strLen]; omega⟩
                · have hn3' : (((n2 : Nat) : Int) == 0) = false := by simpa using hn3
                  have htk : tokPre u.data.toList ≠ [] := fun e => hn3 (by rw [← HV.out.2, e]; rfl)
                  obtain ⟨q, hqq⟩ : ∃ x, u.extract n2 u.size = x := ⟨_, rfl⟩
                  have hyes : paramL (dropL x.data.toList) = some ((nm.data.toList, v.data.toList), q.data.toList) := by
                    rw [HPE3.out, if_pos (token_quote htk), if_neg htk, ← hqq, Lib.extract_to_end, HV.out.1, HV.out.2]
                  have HYES := Lib.hid hyes
                  clear hyes htk
                  have hyes := HYES.out
                  have hql : q.size < x.size := by
                    have h1 := paramL_len hyes
                    have h2 := dropL_le x.data.toList
                    rw [size_toList', size_toList' x]
                    omega
                  have hp : paramsL s0.data.toList = paramsF (17 - (acc ++ [(nm.data.toList, v.data.toList)]).length) (acc ++ [(nm.data.toList, v.data.toList)]) q.data.toList := by
                    rw [HP.out.1, paramsF_some HN.out hyes (by omega)]
                    congr 1
                    simp; omega
                  have HE := Lib.hid hp
                  clear hp hyes
                  go_wp2_with (refine wpList_push rfl _ _ 216 235 rfl Tryz.underlying216 _ 2 32 infoRPar rfl (by decide) (by decide) w.heap.size _ (.slice A4 acc.length c4) _ rfl (World.ownsRow.alloc HB1.out.2.1 _) _ #[.string nm, .string v] rfl (Bk.newAt _ _ _ (by simp)) rfl (by simp [Value.oneCell']) (by omega) (by have := HB1.out.2.2.size; simp at this ⊢; omega) ?_; intro v' w5 hown5 hs5 hv5)
                  have hO5 : OwnP 235 w5 w.heap.size v' (acc ++ [(nm.data.toList, v.data.toList)]) := by
                    unfold OwnP
                    rw [parCells_snoc, List.length_append]
                    exact hown5
                  have hS5 : Sm No w w5 := (HB1.out.2.2.alloc (.cells #[.string nm, .string v] 235)).trans hs5 (fun b hb e => by
                    have := (World.ownsRow.lt HB1.out.2.1 b e).1
                    omega)
                  have H5 := Lib.hid (And.intro hO5 hS5)
                  clear hO5 hS5 hown5 hs5 hv5
                  go_wp2_with fail
                  exact ⟨⟨q, acc ++ [(nm.data.toList, v.data.toList)], rfl, by omega, by simp; omega, HE.out, H5.out.1, H5.out.2⟩, by simp [strLen]; omega⟩
              · have hq3 : ((t[0].toNat : Int) == 61) = false := by
                  simp; intro h; exact hq2 (UInt8.toNat_inj.mp (by have : (61 : UInt8).toNat = 61 := rfl; omega))
                have hyes : paramL (dropL x.data.toList) = some ((nm.data.toList, (⟨#[]⟩ : ByteArray).data.toList), t.data.toList) := by rw [← HRD.out, HPE2.out, htl, paramR, if_neg hq2]
                have HYES := Lib.hid hyes
                clear hyes htl hq2
                have hyes := HYES.out
                have hql : t.size < x.size := by
                  have h1 := paramL_len hyes
                  have h2 := dropL_le x.data.toList
                  rw [size_toList', size_toList' x]
                  omega
                have hp : paramsL s0.data.toList = paramsF (17 - (acc ++ [(nm.data.toList, (⟨#[]⟩ : ByteArray).data.toList)]).length) (acc ++ [(nm.data.toList, (⟨#[]⟩ : ByteArray).data.toList)]) t.data.toList := by
                  rw [HP.out.1, paramsF_some HN.out hyes (by omega)]
                  congr 1
                  simp; omega
                have HE := Lib.hid hp
                clear hp hyes
                go_wp2_with (refine wpList_push rfl _ _ 216 235 rfl Tryz.underlying216 _ 2 32 infoRPar rfl (by decide) (by decide) w.heap.size _ (.slice A4 acc.length c4) _ rfl (World.ownsRow.alloc HB0.out.2.1 _) _ #[.string nm, .string (⟨#[]⟩ : ByteArray)] rfl (Bk.newAt _ _ _ (by simp)) rfl (by simp [Value.oneCell']) (by omega) (by have := HB0.out.2.2.size; simp at this ⊢; omega) ?_; intro v' w5 hown5 hs5 hv5)
                have hO5 : OwnP 235 w5 w.heap.size v' (acc ++ [(nm.data.toList, (⟨#[]⟩ : ByteArray).data.toList)]) := by
                  unfold OwnP
                  rw [parCells_snoc, List.length_append]
                  exact hown5
                have hS5 : Sm No w w5 := (HB0.out.2.2.alloc (.cells #[.string nm, .string (⟨#[]⟩ : ByteArray)] 235)).trans hs5 (fun b hb e => by
                  have := (World.ownsRow.lt HB0.out.2.1 b e).1
                  omega)
                have H5 := Lib.hid (And.intro hO5 hS5)
                clear hO5 hS5 hown5 hs5 hv5
                go_wp2_with fail
                exact ⟨⟨t, acc ++ [(nm.data.toList, (⟨#[]⟩ : ByteArray).data.toList)], rfl, by omega, by simp; omega, HE.out, H5.out.1, H5.out.2⟩, by simp [strLen]; omega⟩
      · have hp : paramsL s0.data.toList = none := by rw [HP.out.1, paramsF_none HN.out (by rw [← HRD.out, hrl, paramL, if_neg hq])]
        have HE := Lib.hid hp
        have hq1 : ((r[0].toNat : Int) != 59) = true := by
          simp; intro h; exact hq (UInt8.toNat_inj.mp (by have : (59 : UInt8).toNat = 59 := rfl; omega))
        clear hp hrl hq
        go_wp2_with fail
        go_ret2
        exact Or.inr ⟨HE.out, rfl, HP.out.2.2⟩
end Go.Proofs.YtiglfbimijnpcaaGreatDoor

namespace Go.Proofs.YtiglfbimijnpcaaGreatDoor
open Go.RowKit Go.Proofs

theorem OwnT.row {w : World} {B : Nat} {v : Value} {l : List (List UInt8)} (h : OwnT w B v l) : ∃ A c, v = .slice A l.length c ∧ RowC w A (l.map strV) ∧ (∀ a, A = some a → B ≤ a.block ∧ a.block < w.heap.size) := by
  obtain ⟨A, c, rfl, hR, _, _⟩ := own_rowC h
  exact ⟨A, c, rfl, hR, fun a ha => by subst ha; exact World.ownsRow.lt h a.block rfl⟩
theorem OwnP.row {t : TypeId} {w : World} {B : Nat} {v : Value} {l : List Par} (h : OwnP t w B v l) : ∃ A c, v = .slice A l.length c ∧ RowC w A (parCells l) := by
  obtain ⟨A, c, rfl, hR, _, _⟩ := own_rowC h
  exact ⟨A, c, rfl, hR⟩
theorem RowC.at {w : World} {A : Option Addr} {cs : List Value} (h : RowC w A cs) {j : Nat} {u : Value} (hj : cs[j]? = some u) : ∃ bb off, A = some ⟨bb, off, none⟩ ∧ bb < w.heap.size ∧ w.cell? ⟨bb, off + j, none⟩ = some u := h j u hj
theorem SRow.rowC {w : World} {A : Option Addr} {vs : List ByteArray} (h : SRow w A vs) : RowC w A ((bytesL vs).map strV) := by
  intro j u hj
  have hlt : j < vs.length := by simpa [bytesL] using (List.getElem?_eq_some_iff.1 hj).1
  obtain ⟨bb, off, hA, hb, h1⟩ := h j hlt
  refine ⟨bb, off, hA, hb, ?_⟩
  rw [h1]
  simp [bytesL, hlt] at hj
  rw [← hj]
  rfl

end Go.Proofs.YtiglfbimijnpcaaGreatDoor

namespace Go.Proofs.YtiglfbimijnpcaaGreatDoor
open Go.RowKit Go.Proofs

def costL (vs : List ByteArray) : Nat := (vs.map fun s => 1 + s.size).sum
theorem costL_mem {vs : List ByteArray} {s : ByteArray} (h : s ∈ vs) : 1 + s.size ≤ costL vs := by
  induction vs with
  | nil => cases h
  | cons x vs ih =>
    unfold costL at ih ⊢
    rw [List.map_cons, List.sum_cons]
    rcases List.mem_cons.1 h with rfl | h
    · omega
    · have := ih h; omega
theorem costL_len (vs : List ByteArray) : vs.length ≤ costL vs := by
  induction vs with
  | nil => simp
  | cons x vs ih => unfold costL at ih ⊢; rw [List.map_cons, List.sum_cons, List.length_cons]; omega
theorem costL_rest (vs : List ByteArray) : (restL vs 0).length ≤ costL vs := by
  unfold restL bytesL
  rw [List.drop_zero]
  induction vs with
  | nil => simp
  | cons x vs ih =>
    unfold costL at ih ⊢
    rw [List.map_cons, List.flatMap_cons, List.length_append, List.map_cons, List.sum_cons]
    have := commaL_many x.data.toList
    rw [← size_toList'] at this
    omega
/-- The values are light. -/
structure Light9 (vs : List ByteArray) : Prop where
  len : vs.length ≤ 3000
  size : ∀ s ∈ vs, s.size ≤ 3000
  rest : (restL vs 0).length ≤ 3000
  cost : costL vs ≤ 3000
theorem light_of {vs : List ByteArray} (h : costL vs ≤ 3000) : Light9 vs :=
  ⟨Nat.le_trans (costL_len vs) h, fun s hs => by have := costL_mem hs; omega, Nat.le_trans (costL_rest vs) h, h⟩

theorem toksA_len : ∀ (ps acc r : List (List UInt8)), toksA acc ps = some r → r.length ≤ acc.length + ps.length
  | [], acc, r, h => by simp [toksA] at h; subst h; simp
  | p :: ps, acc, r, h => by
    by_cases h1 : trimL p = []
    · rw [toksA_blank acc ps h1] at h; have := toksA_len ps acc r h; simp; omega
    · cases h2 : tokL (trimL p)
      · rw [toksA_bad acc ps h1 h2] at h; cases h
      · rw [toksA_tok acc ps h1 h2] at h; have := toksA_len ps _ r h; simp at this ⊢; omega
theorem tokensL_len {vs : List ByteArray} {r : List (List UInt8)} (h : tokensL (bytesL vs) = some r) : r.length ≤ (restL vs 0).length := by
  have := toksA_len _ _ _ h
  simpa [restL] using this
theorem Light9.many {vs : List ByteArray} (h : Light9 vs) {r : List (List UInt8)} (hr : tokensL (bytesL vs) = some r) : r.length ≤ 3000 := Nat.le_trans (tokensL_len hr) h.rest

def hasL (T : Option (List (List UInt8))) (t : List UInt8) : Bool := match T with
  | some r => r.any (· == lowL t)
  | none => false
def HasRelJ (w : World) (r : List (List UInt8)) (x : List UInt8) (i : Value) (wr : World) : Prop :=
  ∃ k : Nat, k ≤ r.length ∧ i = .int .i64 k ∧ Sm No w wr ∧ (r.take k).any (· == x) = false

set_option maxRecDepth 100000 in
set_option maxHeartbeats 8000000 in
theorem rHas9_any (w : World) (t : ByteArray) (A : Option Addr) (c : Nat) (vs : List ByteArray) (hA : SRow w A vs) (hv : Light9 vs) (ht : t.size ≤ 1000000) :
    Calls Tryz.prog 164 #[.string t, .slice A vs.length c] w fun e w' => e = .returned (.bool (hasL (tokensL (bytesL vs)) t.data.toList)) ∧ Sm No w w' := by
  have HT := Lib.hid (rTokens_any w A c vs hA (by have := hv.len; omega) (fun s hs => by have := hv.size s hs; omega) (by have := hv.rest; omega))
  obtain ⟨x, hx⟩ : ∃ x, (⟨(lowL t.data.toList).toArray⟩ : ByteArray) = x := ⟨_, rfl⟩
  have hxd : x.data.toList = lowL t.data.toList := by rw [← hx]
  have HX := Lib.hid hx
  have hvl := hv.rest
  clear hA hx hv
  obtain ⟨b, hb⟩ : ∃ b, hasL (tokensL (bytesL vs)) t.data.toList = b := ⟨_, rfl⟩
  rw [hb]
  have HB := Lib.hid (And.intro hb hxd)
  clear hb hxd
  go_enter Tryz.func164, Tryz.ntmps164
  go_wp2_with fail
  refine HT.out.mono ?_
  rintro e w1 (⟨r, v, hr, rfl, hO, hs⟩ | ⟨hr, rfl, hs⟩)
  · obtain ⟨A2, c2, rfl, hR, hAb⟩ := hO.row
    have hbr : r.any (· == lowL t.data.toList) = b := by rw [← HB.out.1, hr]; rfl
    have hrl : r.length ≤ 3000 := Nat.le_trans (tokensL_len hr) hvl
    have H1 := Lib.hid (And.intro hbr (And.intro hR hs))
    clear hO hR hs hbr hr hAb
    go_wp2_with fail
    go_loopw [7] (fun i wr => HasRelJ w1 r (lowL t.data.toList) i wr) (fun i _ => r.length - (intOf i).toNat)
    case atStart => exact ⟨0, Nat.zero_le _, rfl, Sm.refl _ _, rfl⟩
    case round =>
      obtain ⟨k, hk, rfl, hsm, hno⟩ := hrel
      have HS := Lib.hid (And.intro hsm hno)
      clear hsm hno
      by_cases hlt : k < r.length
      · have e1 : (r.map strV)[k]? = some (strV r[k]) := by simp [hlt]
        obtain ⟨bb, off, hAe, hbb, r0⟩ := (H1.out.2.1.no HS.out.1).at e1
        subst hAe
        obtain ⟨y, hy⟩ : ∃ y, r[k] = y := ⟨_, rfl⟩
        rw [hy, strV] at r0
        have htk : (r.take (k + 1)).any (· == lowL t.data.toList) = (y == lowL t.data.toList) := by
          rw [List.take_succ_eq_append_getElem hlt, List.any_append, HS.out.2, hy]; simp
        have HY := Lib.hid (And.intro htk hy)
        have k1 : (0 : Int) ≤ (k : Int) := by omega
        have k2 : (k : Int) < (r.length : Int) := by omega
        clear htk hy e1
        go_wp2_with fail
        go_region_held3 (fun w' => w'.cell? ⟨bb, off + k, none⟩ = some (.string ⟨y.toArray⟩)) (first | exact r0 | exact r4)
          ((go_at_call 131; (with_reducible refine (rLower_say HX ht _).mono ?_); rintro e w4 ⟨rfl, hs4⟩; have hs5 := HS.out.1.drew.trans hs4 (fun _ _ h => h); have r4 := hs4.cell (by simpa using hbb) r0))
        all_goals go_wp2_with fail
        · rename_i hyx
          have hbt : b = true := by
            rw [← H1.out.1, List.any_eq_true]
            refine ⟨y, by rw [← HY.out.2]; exact List.getElem_mem hlt, ?_⟩
            rw [← HB.out.2, ← Go.ByteArray.toList_eq]
            exact hyx
          subst hbt
          go_ret
          exact ⟨rfl, H1.out.2.2.trans hs5 (fun _ _ h => h)⟩
        · rename_i hyx
          have hno : (r.take (k + 1)).any (· == lowL t.data.toList) = false := by
            rw [HY.out.1, ← HB.out.2, ← Go.ByteArray.toList_eq]
            exact hyx
          exact ⟨⟨k + 1, by omega, by go_num, hs5, hno⟩, by simp [intOf]; omega⟩
      · have hbf : b = false := by
          have h1 := HS.out.2
          rw [List.take_of_length_le (by omega), H1.out.1] at h1
          exact h1
        subst hbf
        go_wp2_with fail
        go_ret
        exact ⟨rfl, H1.out.2.2.trans HS.out.1 (fun _ _ h => h)⟩
  · have hbf : b = false := by rw [← HB.out.1, hr]; rfl
    subst hbf
    have HS := Lib.hid hs
    clear hs hr
    go_wp2_with fail
    go_loopw [7] (fun i wr => HasRelJ w1 [] [] i wr) (fun i _ => 0)
    case atStart => exact ⟨0, Nat.zero_le _, rfl, Sm.refl _ _, rfl⟩
    case round =>
      obtain ⟨k, hk, rfl, hsm, _⟩ := hrel
      obtain rfl : k = 0 := by simpa using hk
      have HS2 := Lib.hid hsm
      clear hsm
      go_wp2_with fail
      go_ret
      exact ⟨rfl, HS.out.trans HS2.out (fun _ _ h => h)⟩
end Go.Proofs.YtiglfbimijnpcaaGreatDoor

namespace Go.Proofs.YtiglfbimijnpcaaGreatDoor
open Go.RowKit Go.Proofs

theorem Bk.rowC {w : World} {g : Nat} {t : TypeId} {cs : Array Value} (h : Bk w g t cs) : RowC w (some ⟨g, 0, none⟩) cs.toList := fun j u hj => ⟨g, 0, rfl, h.lt, by rw [Nat.zero_add]; exact h.at j (by simpa using hj)⟩

theorem g0_of {w : World} (h : w.ShapedOpen Tryz.prog) : G0 w := Tryz.laysM146.s1_3 w h
end Go.Proofs.YtiglfbimijnpcaaGreatDoor

namespace Go.Proofs.YtiglfbimijnpcaaGreatDoor
open Go.RowKit Go.Proofs

section
open Go.WideShapes Go.ChangeShapes
variable {H : Type} {enc : TypeId × Value → H} {w : World}
end

theorem Light9.rTokens {vs : List ByteArray} (h : Light9 vs) (w : World) (A : Option Addr) (c : Nat) (hA : SRow w A vs) : Calls Tryz.prog 163 #[.slice A vs.length c] w (TokPost w vs) :=
  rTokens_any w A c vs hA (by have := h.len; omega) (fun s hs => by have := h.size s hs; omega) (by have := h.rest; omega)
theorem rHas9_say {vs : List ByteArray} {t : ByteArray} {b : Bool} (h : Hid (hasL (tokensL (bytesL vs)) t.data.toList = b)) (hv : Light9 vs) (ht : t.size ≤ 1000000) (w : World) (A : Option Addr) (c : Nat) (hA : SRow w A vs) :
    Calls Tryz.prog 164 #[.string t, .slice A vs.length c] w fun e w' => e = .returned (.bool b) ∧ Sm No w w' := by
  rw [← h.out]; exact rHas9_any w t A c vs hA hv ht

theorem toksA_size : ∀ (ps acc r : List (List UInt8)) (m : Nat), toksA acc ps = some r → (∀ l ∈ acc, l.length ≤ m) → (∀ p ∈ ps, p.length ≤ m) → ∀ l ∈ r, l.length ≤ m
  | [], acc, r, m, h, ha, _ => by simp [toksA] at h; subst h; exact ha
  | p :: ps, acc, r, m, h, ha, hp => by
    by_cases h1 : trimL p = []
    · rw [toksA_blank acc ps h1] at h; exact toksA_size ps acc r m h ha (fun q hq => hp q (List.mem_cons_of_mem _ hq))
    · cases h2 : tokL (trimL p)
      · rw [toksA_bad acc ps h1 h2] at h; cases h
      · rw [toksA_tok acc ps h1 h2] at h
        refine toksA_size ps _ r m h (fun l hl => ?_) (fun q hq => hp q (List.mem_cons_of_mem _ hq))
        rcases List.mem_append.1 hl with g | g
        · exact ha l g
        · obtain rfl := List.mem_singleton.1 g
          have e1 := trimL_le p
          have e2 := hp p (by simp)
          unfold lowL
          rw [List.length_map]; omega
theorem Light9.toks {vs : List ByteArray} (h : Light9 vs) {r : List (List UInt8)} (hr : tokensL (bytesL vs) = some r) : ∀ l ∈ r, l.length ≤ 3001 := by
  refine toksA_size _ _ _ 3001 hr (fun l hl => by cases hl) (fun p hp => ?_)
  obtain ⟨v, hv, hpv⟩ := List.mem_flatMap.1 hp
  obtain ⟨s, hs, rfl⟩ := List.mem_map.1 hv
  have e1 := commaL_len hpv
  have e2 := h.size s hs
  rw [← size_toList'] at e1
  omega

end Go.Proofs.YtiglfbimijnpcaaGreatDoor

