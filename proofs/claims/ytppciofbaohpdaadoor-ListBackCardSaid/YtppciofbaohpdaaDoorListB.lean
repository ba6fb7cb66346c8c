/- Quoted texts: list's Quoted and its twin. -/
import Derived.Test.YtppciofbaohpdaaDoorListA
import Derived.Test.YtppciofbaohpdaaDoorOwnMore
import Derived.WalkSpells
namespace Go.Proofs.YtppciofbaohpdaaDoor
open Go.RowKit Go.Proofs

def byteV (c : UInt8) : Value := .int .u8 c.toNat
/-- v is a slice of bytes of a block of its own, not before block B. -/
def OwnB (w : World) (B : Nat) (v : Value) (l : List UInt8) : Prop := w.ownsRow B 5 1 v l.length (l.map byteV)
theorem OwnB.no {w w' : World} {B : Nat} {v : Value} {l : List UInt8} (h : OwnB w B v l) (hs : Sm No w w') : OwnB w' B v l := own_row_sm h hs (fun _ _ h => h)
theorem OwnB.by {w : World} {B : Nat} {v : Value} {l : List UInt8} (h : OwnB w B v l) : (v = .slice none 0 0 ∧ l = []) ∨ ∃ g cap, v = .slice (some ⟨g, 0, none⟩) l.length cap ∧ B ≤ g ∧ By w g l := by
  rcases own_row_form h with ⟨h1, h2, _⟩ | ⟨g, cap, hv, _, hB, hg, _, hc, hz⟩
  · exact Or.inl ⟨h1, List.eq_nil_of_length_eq_zero h2⟩
  · exact Or.inr ⟨g, cap, hv, hB, hg, fun j c hj => ⟨hc j _ (by simp [hj, byteV]), hz j⟩⟩
theorem Bk.by1 {w : World} {g : Nat} {t : TypeId} {c : UInt8} (h : Bk w g t #[.int .u8 c.toNat]) : By w g [c] := by
  refine ⟨h.lt, fun j d hj => ?_⟩
  match j, hj with
  | 0, hj => obtain rfl : c = d := by simpa using hj
             exact ⟨h.at 0 rfl, h.fz 0⟩

section
variable {P : Program} {ops : Array Oper} {rest : List Oper} {o : Oper} {a : Act} {w : World} {Q : Exit → Act → World → Prop}
theorem wpList_string_nil (hgd : o.guard = none) (src dst e : TypeId) (x : Operand) (ho : o.op = .convert src dst x) (hx : a.eval x = .slice none 0 0)
    (hs : P.underlying src = some (.slice e)) (he : P.underlying e = some (.int .u8)) (hd : P.underlying dst = some .string)
    (h : wpList P ops Q rest (a.put o.dst (.string ⟨#[]⟩)) w) : wpList P ops Q (o :: rest) a w := by
  refine wpList_plain hgd fun _ hK => ?_
  unfold Oper.wp execOp
  have hr : (convert src dst (.slice none 0 0)).run P w = .ok (.string ⟨#[]⟩) w := by
    rw [run_convert_bytes_string w src dst e none 0 0 hs he hd]
    rfl
  simp only [ho, hx, Sem.run_bind, Sem.run_pure, hr, Result.andThen_ok]
  exact hK _ _ h
/-- string(b), b a slice of the call's own. -/
theorem wpList_string_own (hgd : o.guard = none) (src dst : TypeId) (x : Operand) (ho : o.op = .convert src dst x) (B : Nat) (l : List UInt8) (v : Value) (hx : a.eval x = v) (hO : OwnB w B v l)
    (hs : P.underlying src = some (.slice 5)) (he : P.underlying 5 = some (.int .u8)) (hd : P.underlying dst = some .string)
    (h : wpList P ops Q rest (a.put o.dst (.string ⟨l.toArray⟩)) w) : wpList P ops Q (o :: rest) a w := by
  rcases hO.by with ⟨rfl, rfl⟩ | ⟨g, cap, rfl, _, hb⟩
  · exact wpList_string_nil hgd src dst _ x ho hx hs he hd h
  · exact wpList_string_of hgd src dst _ x ho g _ cap l hx hs he hd hb rfl h
end

theorem size_toList' (a : ByteArray) : a.size = a.data.toList.length := by simp

/-- What a look for a quoted text ends in. -/
def quoteV (p : List UInt8 × Nat) : Value := .tuple #[.string ⟨p.1.toArray⟩, .int .i64 (p.2 : Int)]
def QuoRel (s : ByteArray) (w : World) (b i : Value) (wr : World) : Prop :=
  ∃ (k : Nat) (acc : List UInt8), k ≤ s.size ∧ 1 ≤ k ∧ i = .int .i64 k ∧ acc.length ≤ k ∧ quoteL s.data.toList = quoteR (s.data.toList.drop k) acc k ∧ OwnB wr w.heap.size b acc ∧ Sm No w wr

theorem drop_at (s : ByteArray) (k : Nat) (h : k < s.size) : s.data.toList.drop k = s[k] :: s.data.toList.drop (k + 1) := by
  have h2 : k < s.data.toList.length := by simp; exact h
  rw [List.drop_eq_getElem_cons h2]
  rfl

theorem valueByte_say {c : UInt8} {r : Bool} (h : Hid (valB c = r)) (w : World) : Calls Tryd.prog 57 #[.int .u8 c.toNat] w fun e w' => e = .returned (.bool r) ∧ w = w' := by
  rw [← h.out]; exact valueByte_any c w
theorem isValue1_say {c : UInt8} {r : Bool} (h : Hid (valB c = r)) (w : World) : Calls Tryd.prog 56 #[.string ⟨#[c]⟩] w fun e w' => e = .returned (.bool r) ∧ w = w' := by
  have := isValue_any ⟨#[c]⟩ (by show 1 ≤ _; decide) w
  have e : valL (⟨#[c]⟩ : ByteArray).data.toList = r := by rw [← h.out]; simp [valL]
  rw [e] at this
  exact this
theorem u8_ne {c : UInt8} {n : Nat} (hn : n < 256) (h : c ≠ UInt8.ofNat n) : ((c.toNat : Int) == (n : Int)) = false := by
  simp
  intro e
  exact h (UInt8.toNat_inj.mp (by simp; omega))
theorem OwnB.push {w : World} {B n : Nat} {v : Value} {l : List UInt8} {c : UInt8} (h : w.ownsRow B 5 1 v (l.length + 1) (l.map byteV ++ [.int .u8 c.toNat])) (_ : n = 0) : OwnB w B v (l ++ [c]) := by
  unfold OwnB
  rw [List.length_append, List.map_append]
  exact h

set_option maxHeartbeats 8000000 in
theorem rQuoted_any (s : ByteArray) (hs : s.size ≤ 1000000) (w : World) :
    Calls Tryd.prog 30 #[.string s] w fun e w' => e = .returned (quoteV (quoteL s.data.toList)) ∧ Sm No w w' := by
  obtain ⟨R, hR⟩ : ∃ R, quoteL s.data.toList = R := ⟨_, rfl⟩
  rw [hR]
  by_cases h0 : s.size = 0
  · have hn : s.data.toList = [] := List.eq_nil_of_length_eq_zero (by simpa using h0)
    rw [hn] at hR
    subst hR
    have H0 := Lib.hid h0
    have h1 : (((s.size : Nat) : Int) == 0) = true := by simp [h0]
    clear hn h0
    go_enter Tryd.func30, Tryd.ntmps30
    go_wp2_with fail
    all_goals
      go_ret2
      exact ⟨rfl, Sm.refl _ _⟩
  · have h1 : (((s.size : Nat) : Int) == 0) = false := by simpa using h0
    have h2 : 0 < s.size := by omega
    by_cases hq : s[0] = 34
    · have e0 := drop_at s 0 h2
      rw [List.drop_zero] at e0
      have hq1 : ((s[0].toNat : Int) != 34) = false := by simp [hq]
      have hL : quoteL s.data.toList = quoteR (s.data.toList.drop 1) [] 1 := by rw [e0, quoteL, if_pos hq]; rfl
      have HL := Lib.hid (And.intro hL hR)
      clear e0 hq hL hR h0
      go_enter Tryd.func30, Tryd.ntmps30
      go_wp2_with fail
      go_loopw [4, 5] (fun b i wr => QuoRel s w b i wr) (fun _ i _ => s.size - (intOf i).toNat)
      case atStart => exact ⟨1, [], h2, Nat.le_refl _, rfl, by simp, HL.out.1, World.ownsRow_nil _ _ _ 1, Sm.refl _ _⟩
      case round =>
        obtain ⟨k, acc, hk, hk1, rfl, hacc, hqr, hO, hsm⟩ := hrel
        have HQ := Lib.hid (And.intro hqr (And.intro hO hsm))
        clear hqr hO hsm
        by_cases hlt : k < s.size
        · have hd := drop_at s k hlt
          obtain ⟨c, hc⟩ : ∃ c, s[k] = c := ⟨_, rfl⟩
          have hc256 := c.toNat_lt
          rw [hc] at hd
          by_cases hc1 : c = 34
          · have hRR : R = (acc, k + 1) := by rw [← HL.out.2, HQ.out.1, hd, quoteR_end _ _ _ _ hc1]
            have HRR := Lib.hid hRR
            have ht : ((c.toNat : Int) == 34) = true := by rw [hc1]; rfl
            clear hRR hd hc1
            go_wp2_with (refine wpList_string_own rfl 81 9 _ rfl w.heap.size acc _ rfl HQ.out.2.1 Tryd.underlying81 Tryd.underlying5 Tryd.underlying9 ?_)
            go_ret2
            exact ⟨by rw [HRR.out]; rfl, HQ.out.2.2⟩
          · have ht : ((c.toNat : Int) == 34) = false := u8_ne (n := 34) (by decide) hc1
            by_cases hc2 : c = 92
            · have ht2 : ((c.toNat : Int) == 92) = true := by rw [hc2]; rfl
              rw [hc2] at hd
              by_cases hl2 : k + 1 < s.size
              · have hd2 := drop_at s (k + 1) hl2
                obtain ⟨d, hdd⟩ : ∃ d, s[k + 1] = d := ⟨_, rfl⟩
                have hd256 := d.toNat_lt
                rw [hdd] at hd2
                obtain ⟨f, hf⟩ : ∃ f, valB d = f := ⟨_, rfl⟩
                have HF := Lib.hid hf
                have hst : quoteL s.data.toList = if f = true then quoteR (s.data.toList.drop (k + 2)) (acc ++ [d]) (k + 2) else ([], 0) := by rw [HQ.out.1, hd, hd2, quoteR_esc, hf]
                have HD := Lib.hid hst
                have hne : ((((k : Nat) : Int) + 1) == (s.size : Int)) = false := by simp; omega
                have k1 : (0 : Int) ≤ (k : Int) + 1 := by omega
                have k2 : (k : Int) + 1 < (s.size : Int) := by omega
                clear hd hd2 hf hst hc1 hc2
                go_wp2_with fail
                refine (valueByte_say HF _).mono ?_
                rintro e w1 ⟨rfl, rfl⟩
                cases f
                · have hRR : R = ([], 0) := by rw [← HL.out.2, HD.out, if_neg (by simp)]
                  subst hRR
                  go_wp2_with fail
                  go_ret2
                  exact ⟨rfl, HQ.out.2.2⟩
                · have HR2 : Hid (quoteL s.data.toList = quoteR (s.data.toList.drop (k + 2)) (acc ++ [d]) (k + 2)) := by rw [HD.out, if_pos rfl]; exact Lib.hid rfl
                  go_wp2_with (refine wpList_push rfl _ _ 81 5 rfl Tryd.underlying81 _ 1 1 infoU8 rfl (by decide) (by decide) w.heap.size _ u4 _ rfl (World.ownsRow.alloc HQ.out.2.1 _) wr.heap.size #[.int .u8 d.toNat] rfl (Bk.new wr _ _) rfl (by simp [Value.oneCell']) (by omega) (by have := HQ.out.2.2.size; simp; omega) ?_; intro v' w2 hown2 hs2 hv2)
                  have hO2 : OwnB w2 w.heap.size v' (acc ++ [d]) := OwnB.push hown2 rfl
                  have hS2 : Sm No w w2 := (HQ.out.2.2.alloc (.cells #[.int .u8 d.toNat] 5)).trans hs2 (fun b hb e => by
                    have := (World.ownsRow.lt HQ.out.2.1 b e).1
                    omega)
                  have H2 := Lib.hid (And.intro hO2 hS2)
                  clear hO2 hS2 hown2 hs2 hv2
                  go_wp2_with fail
                  exact ⟨⟨k + 2, acc ++ [d], by omega, by omega, by go_num, by simp; omega, HR2.out, H2.out.1, H2.out.2⟩, by simp [intOf]; omega⟩
              · have hRR : R = ([], 0) := by
                  rw [← HL.out.2, HQ.out.1, hd, List.drop_eq_nil_of_le (by simp; omega), quoteR_esc0]
                subst hRR
                have hne : ((((k : Nat) : Int) + 1) == (s.size : Int)) = true := by simp; omega
                clear hd hc1 hc2
                go_wp2_with fail
                go_ret2
                exact ⟨rfl, HQ.out.2.2⟩
            · have ht2 : ((c.toNat : Int) == 92) = false := u8_ne (n := 92) (by decide) hc2
              obtain ⟨f, hf⟩ : ∃ f, valB c = f := ⟨_, rfl⟩
              have HF := Lib.hid hf
              have hst : quoteL s.data.toList = if f = true then quoteR (s.data.toList.drop (k + 1)) (acc ++ [c]) (k + 1) else ([], 0) := by rw [HQ.out.1, hd, quoteR_byte _ _ _ _ hc1 hc2, hf]
              have HD := Lib.hid hst
              clear hd hf hst hc1 hc2
              go_wp2_with fail
              refine (valueByte_say HF _).mono ?_
              rintro e w1 ⟨rfl, rfl⟩
              cases f
              · have hRR : R = ([], 0) := by rw [← HL.out.2, HD.out, if_neg (by simp)]
                subst hRR
                go_wp2_with fail
                go_ret2
                exact ⟨rfl, HQ.out.2.2⟩
              · have HR2 : Hid (quoteL s.data.toList = quoteR (s.data.toList.drop (k + 1)) (acc ++ [c]) (k + 1)) := by rw [HD.out, if_pos rfl]; exact Lib.hid rfl
                go_wp2_with (refine wpList_push rfl _ _ 81 5 rfl Tryd.underlying81 _ 1 1 infoU8 rfl (by decide) (by decide) w.heap.size _ u4 _ rfl (World.ownsRow.alloc HQ.out.2.1 _) wr.heap.size #[.int .u8 c.toNat] rfl (Bk.new wr _ _) rfl (by simp [Value.oneCell']) (by omega) (by have := HQ.out.2.2.size; simp; omega) ?_; intro v' w2 hown2 hs2 hv2)
                have hO2 : OwnB w2 w.heap.size v' (acc ++ [c]) := OwnB.push hown2 rfl
                have hS2 : Sm No w w2 := (HQ.out.2.2.alloc (.cells #[.int .u8 c.toNat] 5)).trans hs2 (fun b hb e => by
                  have := (World.ownsRow.lt HQ.out.2.1 b e).1
                  omega)
                have H2 := Lib.hid (And.intro hO2 hS2)
                clear hO2 hS2 hown2 hs2 hv2
                go_wp2_with fail
                exact ⟨⟨k + 1, acc ++ [c], by omega, by omega, by go_num, by simp; omega, HR2.out, H2.out.1, H2.out.2⟩, by simp [intOf]; omega⟩
        · have hRR : R = ([], 0) := by
            rw [← HL.out.2, HQ.out.1, List.drop_eq_nil_of_le (by simp; omega)]; rfl
          subst hRR
          go_wp2_with fail
          go_ret2
          exact ⟨rfl, HQ.out.2.2⟩
    · have hq1 : ((s[0].toNat : Int) != 34) = true := by
        simp; intro h; exact hq (UInt8.toNat_inj.mp (by have : (34 : UInt8).toNat = 34 := rfl; omega))
      have e0 := drop_at s 0 h2
      rw [List.drop_zero] at e0
      have hL : R = ([], 0) := by rw [← hR, e0, quoteL, if_neg hq]
      subst hL
      clear e0 hq hR h0
      go_enter Tryd.func30, Tryd.ntmps30
      go_wp2_with fail
      all_goals
        go_ret2
        exact ⟨rfl, Sm.refl _ _⟩

set_option maxHeartbeats 8000000 in
theorem quoted_any (s : ByteArray) (hs : s.size ≤ 1000000) (w : World) :
    Calls Tryd.prog 29 #[.string s] w fun e w' => e = .returned (quoteV (quoteL s.data.toList)) ∧ Sm No w w' := by
  obtain ⟨R, hR⟩ : ∃ R, quoteL s.data.toList = R := ⟨_, rfl⟩
  rw [hR]
  by_cases h0 : s.size = 0
  · have hn : s.data.toList = [] := List.eq_nil_of_length_eq_zero (by simpa using h0)
    rw [hn] at hR
    subst hR
    have h1 : s.toList = [] := by rw [Go.ByteArray.toList_eq]; exact hn
    have h2 : s.toList.isEmpty = true := by rw [h1]; rfl
    clear hn h0
    go_enter Tryd.func29, Tryd.ntmps29
    go_wp2_with fail
    all_goals
      go_ret2
      exact ⟨rfl, Sm.refl _ _⟩
  · have h2 : 0 < s.size := by omega
    have h3 : s.toList.isEmpty = false := by rw [Go.ByteArray.toList_eq]; cases hq : s.data.toList with
      | nil => exact absurd (show s.data.toList.length = 0 by rw [hq]; rfl) (by rw [← size_toList']; exact h0)
      | cons a l => rfl
    by_cases hq : s[0] = 34
    · have e0 := drop_at s 0 h2
      rw [List.drop_zero] at e0
      have hq1 : ((s[0].toNat : Int) != 34) = false := by simp [hq]
      have hL : quoteL s.data.toList = quoteR (s.data.toList.drop 1) [] 1 := by rw [e0, quoteL, if_pos hq]; rfl
      have HL := Lib.hid (And.intro hL hR)
      clear e0 hq hL hR h0
      go_enter Tryd.func29, Tryd.ntmps29
      go_wp2_with fail
      go_loopw [4, 5] (fun b i wr => QuoRel s w b i wr) (fun _ i _ => s.size - (intOf i).toNat)
      case atStart => exact ⟨1, [], h2, Nat.le_refl _, rfl, by simp, HL.out.1, World.ownsRow_nil _ _ _ 1, Sm.refl _ _⟩
      case round =>
        obtain ⟨k, acc, hk, hk1, rfl, hacc, hqr, hO, hsm⟩ := hrel
        have HQ := Lib.hid (And.intro hqr (And.intro hO hsm))
        clear hqr hO hsm
        by_cases hlt : k < s.size
        · have hd := drop_at s k hlt
          obtain ⟨c, hc⟩ : ∃ c, s[k] = c := ⟨_, rfl⟩
          have hc256 := c.toNat_lt
          rw [hc] at hd
          by_cases hc1 : c = 34
          · have hRR : R = (acc, k + 1) := by rw [← HL.out.2, HQ.out.1, hd, quoteR_end _ _ _ _ hc1]
            have HRR := Lib.hid hRR
            have ht : ((c.toNat : Int) == 34) = true := by rw [hc1]; rfl
            clear hRR hd hc1
            go_wp2_with (refine wpList_string_own rfl 81 9 _ rfl w.heap.size acc _ rfl HQ.out.2.1 Tryd.underlying81 Tryd.underlying5 Tryd.underlying9 ?_)
            go_ret2
            exact ⟨by rw [HRR.out]; rfl, HQ.out.2.2⟩
          · have ht : ((c.toNat : Int) == 34) = false := u8_ne (n := 34) (by decide) hc1
            by_cases hc2 : c = 92
            · have ht2 : ((c.toNat : Int) == 92) = true := by rw [hc2]; rfl
              rw [hc2] at hd
              by_cases hl2 : k + 1 < s.size
              · have hd2 := drop_at s (k + 1) hl2
                obtain ⟨d, hdd⟩ : ∃ d, s[k + 1] = d := ⟨_, rfl⟩
                have hd256 := d.toNat_lt
                rw [hdd] at hd2
                obtain ⟨f, hf⟩ : ∃ f, valB d = f := ⟨_, rfl⟩
                have HF := Lib.hid hf
                have hst : quoteL s.data.toList = if f = true then quoteR (s.data.toList.drop (k + 2)) (acc ++ [d]) (k + 2) else ([], 0) := by rw [HQ.out.1, hd, hd2, quoteR_esc, hf]
                have HD := Lib.hid hst
                have hne : ((((k : Nat) : Int) + 1) == (s.size : Int)) = false := by simp; omega
                have k1 : (0 : Int) ≤ (k : Int) + 1 := by omega
                have k2 : (k : Int) + 1 < (s.size : Int) := by omega
                clear hd hd2 hf hst hc1 hc2
                go_wp2_with (refine wpList_string_of rfl 81 9 5 _ rfl wr.heap.size 1 1 [d] rfl Tryd.underlying81 Tryd.underlying5 Tryd.underlying9 (Bk.new wr 5 #[.int .u8 d.toNat]).by1 rfl ?_)
                refine (isValue1_say HF _).mono ?_
                rintro e w1 ⟨rfl, rfl⟩
                have HQ3 := Lib.hid (And.intro (World.ownsRow.alloc HQ.out.2.1 (.cells #[.int .u8 d.toNat] 5)) (HQ.out.2.2.alloc (.cells #[.int .u8 d.toNat] 5)))
                generalize wr.alloc (.cells #[.int .u8 d.toNat] 5) = wr1 at HQ3 ⊢
                cases f
                · have hRR : R = ([], 0) := by rw [← HL.out.2, HD.out, if_neg (by simp)]
                  subst hRR
                  go_wp2_with fail
                  go_ret2
                  exact ⟨rfl, HQ3.out.2⟩
                · have HR2 : Hid (quoteL s.data.toList = quoteR (s.data.toList.drop (k + 2)) (acc ++ [d]) (k + 2)) := by rw [HD.out, if_pos rfl]; exact Lib.hid rfl
                  go_wp2_with (refine wpList_push rfl _ _ 81 5 rfl Tryd.underlying81 _ 1 1 infoU8 rfl (by decide) (by decide) w.heap.size _ u4 _ rfl (World.ownsRow.alloc HQ3.out.1 _) wr1.heap.size #[.int .u8 d.toNat] rfl (Bk.new wr1 _ _) rfl (by simp [Value.oneCell']) (by omega) (by have := HQ3.out.2.size; simp; omega) ?_; intro v' w2 hown2 hs2 hv2)
                  have hO2 : OwnB w2 w.heap.size v' (acc ++ [d]) := OwnB.push hown2 rfl
                  have hS2 : Sm No w w2 := (HQ3.out.2.alloc (.cells #[.int .u8 d.toNat] 5)).trans hs2 (fun b hb e => by
                    have := (World.ownsRow.lt HQ3.out.1 b e).1
                    omega)
                  have H2 := Lib.hid (And.intro hO2 hS2)
                  clear hO2 hS2 hown2 hs2 hv2
                  go_wp2_with fail
                  exact ⟨⟨k + 2, acc ++ [d], by omega, by omega, by go_num, by simp; omega, HR2.out, H2.out.1, H2.out.2⟩, by simp [intOf]; omega⟩
              · have hRR : R = ([], 0) := by
                  rw [← HL.out.2, HQ.out.1, hd, List.drop_eq_nil_of_le (by simp; omega), quoteR_esc0]
                subst hRR
                have hne : ((((k : Nat) : Int) + 1) == (s.size : Int)) = true := by simp; omega
                clear hd hc1 hc2
                go_wp2_with fail
                go_ret2
                exact ⟨rfl, HQ.out.2.2⟩
            · have ht2 : ((c.toNat : Int) == 92) = false := u8_ne (n := 92) (by decide) hc2
              obtain ⟨f, hf⟩ : ∃ f, valB c = f := ⟨_, rfl⟩
              have HF := Lib.hid hf
              have hst : quoteL s.data.toList = if f = true then quoteR (s.data.toList.drop (k + 1)) (acc ++ [c]) (k + 1) else ([], 0) := by rw [HQ.out.1, hd, quoteR_byte _ _ _ _ hc1 hc2, hf]
              have HD := Lib.hid hst
              clear hd hf hst hc1 hc2
              go_wp2_with (refine wpList_string_of rfl 81 9 5 _ rfl wr.heap.size 1 1 [c] rfl Tryd.underlying81 Tryd.underlying5 Tryd.underlying9 (Bk.new wr 5 #[.int .u8 c.toNat]).by1 rfl ?_)
              refine (isValue1_say HF _).mono ?_
              rintro e w1 ⟨rfl, rfl⟩
              have HQ3 := Lib.hid (And.intro (World.ownsRow.alloc HQ.out.2.1 (.cells #[.int .u8 c.toNat] 5)) (HQ.out.2.2.alloc (.cells #[.int .u8 c.toNat] 5)))
              generalize wr.alloc (.cells #[.int .u8 c.toNat] 5) = wr1 at HQ3 ⊢
              cases f
              · have hRR : R = ([], 0) := by rw [← HL.out.2, HD.out, if_neg (by simp)]
                subst hRR
                go_wp2_with fail
                go_ret2
                exact ⟨rfl, HQ3.out.2⟩
              · have HR2 : Hid (quoteL s.data.toList = quoteR (s.data.toList.drop (k + 1)) (acc ++ [c]) (k + 1)) := by rw [HD.out, if_pos rfl]; exact Lib.hid rfl
                go_wp2_with (refine wpList_push rfl _ _ 81 5 rfl Tryd.underlying81 _ 1 1 infoU8 rfl (by decide) (by decide) w.heap.size _ u4 _ rfl (World.ownsRow.alloc HQ3.out.1 _) wr1.heap.size #[.int .u8 c.toNat] rfl (Bk.new wr1 _ _) rfl (by simp [Value.oneCell']) (by omega) (by have := HQ3.out.2.size; simp; omega) ?_; intro v' w2 hown2 hs2 hv2)
                have hO2 : OwnB w2 w.heap.size v' (acc ++ [c]) := OwnB.push hown2 rfl
                have hS2 : Sm No w w2 := (HQ3.out.2.alloc (.cells #[.int .u8 c.toNat] 5)).trans hs2 (fun b hb e => by
                  have := (World.ownsRow.lt HQ3.out.1 b e).1
                  omega)
                have H2 := Lib.hid (And.intro hO2 hS2)
                clear hO2 hS2 hown2 hs2 hv2
                go_wp2_with fail
                exact ⟨⟨k + 1, acc ++ [c], by omega, by omega, by go_num, by simp; omega, HR2.out, H2.out.1, H2.out.2⟩, by simp [intOf]; omega⟩
        · have hRR : R = ([], 0) := by
            rw [← HL.out.2, HQ.out.1, List.drop_eq_nil_of_le (by simp; omega)]; rfl
          subst hRR
          go_wp2_with fail
          go_ret2
          exact ⟨rfl, HQ.out.2.2⟩
    · have hq1 : ((s[0].toNat : Int) != 34) = true := by
        simp; intro h; exact hq (UInt8.toNat_inj.mp (by have : (34 : UInt8).toNat = 34 := rfl; omega))
      have e0 := drop_at s 0 h2
      rw [List.drop_zero] at e0
      have hL : R = ([], 0) := by rw [← hR, e0, quoteL, if_neg hq]
      subst hL
      clear e0 hq hR h0
      go_enter Tryd.func29, Tryd.ntmps29
      go_wp2_with fail
      all_goals
        go_ret2
        exact ⟨rfl, Sm.refl _ _⟩
end Go.Proofs.YtppciofbaohpdaaDoor
