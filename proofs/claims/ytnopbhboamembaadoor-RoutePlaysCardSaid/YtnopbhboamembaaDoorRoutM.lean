/- The law RoutePlays: the program's Router and the document's side by side. -/
import Derived.Test.YtnopbhboamembaaDoorRoutL
import Derived.Test.YtnopbhboamembaaDoorTwinD
import Derived.Test.YtnopbhboamembaaDoorTwinG
namespace Go.Proofs.YtnopbhboamembaaDoor
open Go.RowKit Go.Proofs

/-- Both Routers, of the call's own; nothing shared; the blocks of K are none of theirs. -/
def PK (w w1 : World) (K : Nat → Prop) (ra rx : Nat) (La Lx : List Lt) : Prop :=
  ∃ Oa Ox, IsRouter w1 Oa ra La ∧ IsTwin w1 Ox rx Lx ∧ Sm No w w1 ∧ (∀ b, Oa b → w.heap.size ≤ b) ∧ (∀ b, Ox b → w.heap.size ≤ b) ∧ (∀ b, Oa b → ¬ Ox b) ∧ ∀ b, K b → b < w1.heap.size ∧ ¬ Oa b ∧ ¬ Ox b
theorem IsTwin.lt {w : World} {O : Nat → Prop} {r : Nat} {L : List Lt} (h : IsTwin w O r L) : ∀ b, O b → b < w.heap.size := by
  obtain ⟨_, _, _, _, _, _, _, _, _, h⟩ := h
  exact h
section
variable {w w1 : World} {K : Nat → Prop} {ra rx : Nat} {La Lx : List Lt}
theorem PK.sm (h : PK w w1 K ra rx La Lx) : Sm No w w1 := by
  obtain ⟨Oa, Ox, _, _, h, _⟩ := h
  exact h
theorem PK.no {w2 : World} (h : PK w w1 K ra rx La Lx) (hs : Sm No w1 w2) : PK w w2 K ra rx La Lx := by
  obtain ⟨Oa, Ox, h1, h2, h3, h4, h5, h6, h7⟩ := h
  exact ⟨Oa, Ox, h1.no hs, h2.no hs, h3.trans hs (fun _ _ h => h), h4, h5, h6, fun b hb => ⟨Nat.lt_of_lt_of_le (h7 b hb).1 hs.size, (h7 b hb).2⟩⟩
theorem PK.free (h : PK w w1 K ra rx La Lx) : PK w w1 No ra rx La Lx := by
  obtain ⟨Oa, Ox, h1, h2, h3, h4, h5, h6, h7⟩ := h
  exact ⟨Oa, Ox, h1, h2, h3, h4, h5, h6, fun b hb => hb.elim⟩
theorem PK.fresh {w2 : World} {K2 : Nat → Prop} (h : PK w w1 K ra rx La Lx) (hs : Sm No w1 w2) (hK : ∀ b, K2 b → w1.heap.size ≤ b ∧ b < w2.heap.size) : PK w w2 K2 ra rx La Lx := by
  obtain ⟨Oa, Ox, h1, h2, h3, h4, h5, h6, h7⟩ := h
  exact ⟨Oa, Ox, h1.no hs, h2.no hs, h3.trans hs (fun _ _ h => h), h4, h5, h6, fun b hb => ⟨(hK b hb).2, fun ho => by have := h1.lt b ho; have := (hK b hb).1; omega, fun ho => by have := h2.lt b ho; have := (hK b hb).1; omega⟩⟩
theorem PK.cell (h : PK w w1 K ra rx La Lx) : ∃ A c, w1.cell? ⟨rx, 0, none⟩ = some (.slice A Lx.length c) := by
  obtain ⟨Oa, Ox, _, ⟨v, l, hT⟩, _⟩ := h
  obtain ⟨A, c, rfl⟩ := hT.form
  exact ⟨A, c, hT.1.at 0 rfl⟩
theorem padd {x : LaidA} {A : Option Addr} {c : Nat} (h : PK w w1 K ra rx La Lx) (hg : G0 w) (hL : Fine La) (hx : SmallA x) (hA : RowC w1 A ((bytesL x.ms).map strV)) (hn : A = none → c = 0) :
    Calls Tryd.prog 27 #[.pointer (some ⟨ra, 0, none⟩), .string x.pat, .int .i64 x.id, .slice A x.ms.length c] w1 fun e w2 => e = .returned (.int .i64 (addC La (toLt x))) ∧ PK w w2 K ra rx (addS La (toLt x)) Lx ∧ Sm (fun b => ¬ K b) w1 w2 := by
  obtain ⟨Oa, Ox, h1, h2, h3, h4, h5, h6, h7⟩ := h
  have hl : (bytesL x.ms).length = x.ms.length := by simp [bytesL]
  have := add_any w1 Oa ra La x.pat x.id A c (bytesL x.ms) h1 (hg.no h3) hL.1 (fun y hy => Nat.le_trans (hL.2 y hy) (by decide)) (by have := hx.1; omega) hA hn (by have := hx.2.1; omega)
    (fun t ht => by
      obtain ⟨s, hs, rfl⟩ := List.mem_map.1 ht
      have := hx.2.2 s hs
      simpa using (by omega : s.size ≤ 1000000))
  rw [hl] at this
  refine this.mono ?_
  rintro e w2 ⟨he, O', g1, g2, g3⟩
  refine ⟨he, ⟨O', Ox, g1, h2.sm g2 (fun b hb ha => h6 b ha hb), h3.fresh g2 h4, fun b hb => ?_, h5, fun b hb hO => ?_, fun b hb => ⟨Nat.lt_of_lt_of_le (h7 b hb).1 g2.size, fun ho => ?_, (h7 b hb).2.2⟩⟩, g2.mono (fun b _ ho hk => (h7 b hk).2.1 ho)⟩
  · rcases g3 b hb with g | g
    · exact h4 b g
    · exact Nat.le_trans h3.size g
  · rcases g3 b hb with g | g
    · exact h6 b g hO
    · have := h2.lt b hO; omega
  · rcases g3 b ho with g | g
    · exact (h7 b hb).2.1 g
    · have := (h7 b hb).1; omega
theorem pradd {x : LaidA} (h : PK w w1 K ra rx La Lx) (hL : Fine Lx) (hx : SmallA x) (hms : ArgS w x.ma x.ms x.mc) :
    Calls Tryd.prog 31 #[.pointer (some ⟨rx, 0, none⟩), .string x.pat, .int .i64 x.id, .slice x.ma x.ms.length x.mc] w1 fun e w2 => e = .returned (.int .i64 (addC Lx (toLt x))) ∧ PK w w2 K ra rx La (addS Lx (toLt x)) ∧ Sm (fun b => ¬ K b) w1 w2 := by
  obtain ⟨Oa, Ox, h1, h2, h3, h4, h5, h6, h7⟩ := h
  have hl : (bytesL x.ms).length = x.ms.length := by simp [bytesL]
  have := radd_any w1 Ox rx Lx x.pat x.id x.ma x.mc (bytesL x.ms) h2 hL.1 hL.2 (by have := hx.1; omega) (srow_rowC (hms.1.no h3)) hms.2.2.2.2 (by have := hx.2.1; omega)
    (fun t ht => by
      obtain ⟨s, hs, rfl⟩ := List.mem_map.1 ht
      have := hx.2.2 s hs
      simpa using (by omega : s.size ≤ 1000000))
  rw [hl] at this
  refine this.mono ?_
  rintro e w2 ⟨he, O', g1, g2, g3⟩
  refine ⟨he, ⟨Oa, O', h1.sm g2 (fun b hb ha => h6 b hb ha), g1, h3.fresh g2 h5, h4, fun b hb => ?_, fun b hb hO => ?_, fun b hb => ⟨Nat.lt_of_lt_of_le (h7 b hb).1 g2.size, (h7 b hb).2.1, fun ho => ?_⟩⟩, g2.mono (fun b _ ho hk => (h7 b hk).2.2 ho)⟩
  · rcases g3 b hb with g | g
    · exact h5 b g
    · exact Nat.le_trans h3.size g
  · rcases g3 b hO with g | g
    · exact h6 b hb g
    · have := h1.lt b hb; omega
  · rcases g3 b ho with g | g
    · exact (h7 b hb).2.2 g
    · have := (h7 b hb).1; omega
theorem plen (h : PK w w1 K ra rx La Lx) : Calls Tryd.prog 32 #[.pointer (some ⟨ra, 0, none⟩)] w1 fun e w' => e = .returned (.int .i64 La.length) ∧ w' = w1 := by
  obtain ⟨Oa, Ox, h1, _⟩ := h
  exact len_any w1 Oa ra La h1
theorem pmatch (m path : ByteArray) {i st : Int} {rest : Txt} {al : List Txt} (hM : matchL La (txt m) (txt path) = (i, rest, al, st)) (h : PK w w1 K ra rx La Lx) (hL : Fine La) (hp : path.size ≤ 1000000) :
    Calls Tryd.prog 28 #[.pointer (some ⟨ra, 0, none⟩), .string m, .string path] w1 fun e w2 => ∃ A c, e = .returned (.tuple #[.int .i64 i, strB rest, .slice A al.length c, .int .i64 st]) ∧ RowC w2 A (al.map strV) ∧ Sm No w1 w2 := by
  obtain ⟨Oa, Ox, h1, _⟩ := h
  refine (match_any w1 Oa ra La m path h1 hL.1 hL.2 hp).mono ?_
  rintro e w2 ⟨v, he, hv, hs⟩
  rw [hM] at he hv
  obtain ⟨A, c, rfl, hR, _⟩ := own_rowC hv
  exact ⟨A, c, he, hR, hs⟩
theorem prmatch (m path : ByteArray) {i st : Int} {rest : Txt} {al : List Txt} (hM : matchL Lx (txt m) (txt path) = (i, rest, al, st)) (h : PK w w1 K ra rx La Lx) (hL : Fine Lx) (hLp : ∀ x ∈ Lx, x.pat.length ≤ 1000) (hp : path.size ≤ 1000000) :
    Calls Tryd.prog 33 #[.pointer (some ⟨rx, 0, none⟩), .string m, .string path] w1 fun e w2 => ∃ A c, e = .returned (.tuple #[.int .i64 i, strB rest, .slice A al.length c, .int .i64 st]) ∧ RowC w2 A (al.map strV) ∧ Sm No w1 w2 := by
  obtain ⟨Oa, Ox, _, h2, _⟩ := h
  refine (rmatch_any w1 Ox rx Lx m path h2 hL.1 hLp hL.2 hp).mono ?_
  rintro e w2 ⟨v, he, hv, hs⟩
  rw [hM] at he hv
  obtain ⟨A, c, rfl, hR, _⟩ := own_rowC hv
  exact ⟨A, c, he, hR, hs⟩
end
theorem patL_len {s : Txt} (h : patL s = true) : s.length ≤ 1000 := by
  rw [patL_ok, okP] at h
  simp only [Bool.and_eq_true, decide_eq_true_eq] at h
  have h2 := h.2
  rw [← patOf_key s]
  unfold patOf
  split
  · simp; omega
  · omega
/-- Routes that a Router may hold. -/
def FineT (L : List Lt) : Prop := Taken L ∧ Fine L
theorem FineT.add {L : List Lt} {x : Lt} (h : FineT L) (hx : x.ms.length ≤ 4000) : FineT (addS L x) := by
  refine ⟨?_, h.2.add hx⟩
  unfold addS
  split
  · rename_i hc; exact h.1.add hc
  · exact h.1
theorem FineT.pat {L : List Lt} (h : FineT L) : ∀ x ∈ L, x.pat.length ≤ 1000 := fun x hx => patL_len (h.1.2.1 x hx).1

theorem texts_laid {W : World} {A B : Option Addr} {x : LaidA} {mc d : Nat} (h : RowC W A ((bytesL x.ms).map strV)) (h2 : RowC W B ((bytesL x.ms).map strV)) (hx : x.ms.length ≤ 4000) :
    Calls Tryd.prog 29 #[.slice A x.ms.length mc, .slice B x.ms.length d] W fun e w' => e = .returned (.bool true) ∧ Sm No W w' := by
  have hl : (bytesL x.ms).length = x.ms.length := by simp [bytesL]
  have := texts19_any W A B mc d (bytesL x.ms) h h2 (by omega)
  rw [hl] at this
  exact this

theorem wpAnyH_mono {P : Program} {md : Region.Mode} {ops : Array Oper} {Q : Exit → Act → World → Prop} {S S2 : World → Prop} (h : ∀ w, S2 w → S w) :
    ∀ (fuel : Nat) (listed : Array Bool) (a : Act) (w : World), wpAnyH P md ops Q S2 fuel listed a w → wpAnyH P md ops Q S fuel listed a w
  | 0, _, _, _, g => g
  | fuel + 1, _, _, _, g => ⟨g.1, fun i hi => wpOp_mono (fun a' w' h' => ⟨h _ h'.1, wpAnyH_mono h fuel _ a' w' h'.2⟩) (g.2 i hi)⟩

theorem ps_start {w w0 w1 : World} {Oa : Nat → Prop} {ra : Nat} (h0 : Sm No w w0) (h1 : IsRouter w1 Oa ra []) (h2 : Sm No w0 w1) (h3 : ∀ b, Oa b → w0.heap.size ≤ b) :
    PK w (w1.alloc (.cells #[.slice none 0 0] 65)) No ra w1.heap.size [] [] := by
  have hs := (Sm.refl No w1).alloc (.cells #[.slice none 0 0] 65)
  refine ⟨Oa, (fun b => b = w1.heap.size), h1.no hs, ⟨.slice none 0 0, [], Bk.new _ _ _, World.ownsRow_nil _ _ _ 3, rfl, by simp, rfl, (fun g e => by cases e), by simp, (fun b hb => by subst hb; simp)⟩, (h0.trans h2 (fun _ _ h => h)).alloc _, fun b hb => Nat.le_trans h0.size (h3 b hb), (fun b hb => by subst hb; exact Nat.le_trans h0.size h2.size), fun b ha hb => ?_, fun b hb => hb.elim⟩
  subst hb
  have := h1.lt _ ha
  omega

def PpRel (w : World) (ps : List ByteArray) (z : Nat) (nv iv : Value) (wr : World) : Prop :=
  ∃ (k t : Nat), k ≤ ps.length ∧ (0 < k → t ≤ 4000) ∧ t ≤ z + 4001 ∧ nv = .int .i64 t ∧ iv = .int .i64 k ∧ Sm No w wr ∧ ∀ p ∈ ps.take k, p.size ≤ 4000
def PaRel (w : World) (n ra rx : Nat) (iv : Value) (wr : World) : Prop :=
  ∃ (k : Nat) (L : List Lt), k ≤ n ∧ iv = .int .i64 k ∧ PK w wr No ra rx L L ∧ FineT L
def PmRel (w : World) (n ra rx : Nat) (L : List Lt) (iv : Value) (wr : World) : Prop :=
  ∃ (k : Nat), k ≤ n ∧ iv = .int .i64 k ∧ PK w wr No ra rx L L

set_option linter.unusedSimpArgs false in
set_option maxRecDepth 100000 in
set_option maxHeartbeats 60000000 in
theorem plays19_any {w : World} (hg : G0 w) (A : Option Addr) (l : List LaidA) (c : Nat) (m : ByteArray) (B : Option Addr) (ps : List ByteArray) (d : Nat) (hA : ArgL w A l c) (hm : m.size ≤ 140737488351232) (hB : ArgS w B ps d) :
    Calls Tryd.prog 7 #[.slice A l.length c, .string m, .slice B ps.length d] w fun e w' => e = .returned (.bool true) ∧ Sm No w w' := by
  have HA := Lib.hid (And.intro hA (And.intro hB hg))
  have hc1 : (l.length : Int) ≤ 4398046511104 := by have := hA.2.1; have := hA.2.2.1; omega
  have hd1 : (ps.length : Int) ≤ 8796093022208 := by have := hB.2.1; have := hB.2.2.1; omega
  clear hA hB hg
  go_enter Tryd.func7, Tryd.ntmps7
  go_wp2_with fail
  go_loopw [7, 8] (fun n i wr => PpRel w ps m.size n i wr) (fun _ i _ => ps.length - (intOf i).toNat)
  case atStart => exact ⟨0, m.size, Nat.zero_le _, by omega, by omega, rfl, rfl, Sm.refl _ _, fun p h => by simp at h⟩
  case round =>
    obtain ⟨k, t, hk, ht0, htz, rfl, rfl, hs, hps⟩ := hrel
    have HS := Lib.hid (And.intro hs (And.intro hps ht0))
    clear hs hps ht0
    by_cases hlt : k < ps.length
    · obtain ⟨bb, off, hBe, hbb, r0⟩ := (HA.out.2.1.1.no HS.out.1) k hlt
      subst hBe
      have hst : ps[k].size ≤ 4000 → ∀ p ∈ ps.take (k + 1), p.size ≤ 4000 := fun h => take_stepA HS.out.2.1 hlt h
      have hpz := HA.out.2.1.2.2.2.1 _ (List.getElem_mem hlt)
      obtain ⟨p, hp⟩ : ∃ p, ps[k] = p := ⟨_, rfl⟩
      rw [hp] at r0 hst hpz
      have HT := Lib.hid hst
      have k1 : (0 : Int) ≤ (k : Int) := by omega
      have k2 : (k : Int) < (ps.length : Int) := by omega
      clear hp hst
      by_cases hgt : 4000 < t + 1 + p.size
      · go_wp2_with fail
        go_ret
        exact ⟨rfl, HS.out.1⟩
      · go_wp2_with fail
        exact ⟨⟨k + 1, t + 1 + p.size, by omega, by omega, by omega, by go_num, by go_num, HS.out.1, HT.out (by omega)⟩, by simp [intOf]; omega⟩
    · have hall : ∀ p ∈ ps, p.size ≤ 4000 := by
        have := HS.out.2.1
        rw [List.take_of_length_le (by omega)] at this
        exact this
      have HAll := Lib.hid hall
      have HH := Lib.hid (heavy19_any wr A l c ⟨HA.out.1.1.no HS.out.1, HA.out.1.2⟩)
      clear hall
      go_wp2_with fail
      refine HH.out.mono ?_
      rintro e w0 ⟨b, rfl, hs0, hsm⟩
      have HS0 := Lib.hid (HS.out.1.trans hs0 (fun _ _ h => h))
      cases b
      · have hsmall := hsm rfl
        have HSm := Lib.hid hsmall
        clear hsm hs0 hsmall
        by_cases hz : t ≤ 4000
        · go_wp2_with fail
          refine (start_ts w0).mono ?_
          rintro e w1 ⟨ra, Oa, rfl, hRa, hs1, hOa⟩
          have H1 := Lib.hid (ps_start HS0.out hRa hs1 hOa)
          clear hRa hs1 hOa
          go_wp2_with fail
          obtain ⟨rx, hrx⟩ : ∃ rx, w1.heap.size = rx := ⟨_, rfl⟩
          rw [hrx] at H1 ⊢
          clear hrx
          go_loopw [11] (fun i wr => PaRel w l.length ra rx i wr) (fun i _ => l.length - (intOf i).toNat)
          case atStart => exact ⟨0, [], Nat.zero_le _, rfl, H1.out, Taken.nil, Fine.nil⟩
          case round =>
            obtain ⟨k, L, hk, rfl, hP, hF⟩ := hrel
            have HP := Lib.hid (And.intro hP hF)
            clear hP hF
            by_cases hlt : k < l.length
            · obtain ⟨⟨bb, off, hAe, hbb, r0, r1, r2⟩, hms⟩ := HA.out.1.1 k hlt
              subst hAe
              have hxs := HSm.out.2 _ (List.getElem_mem hlt)
              obtain ⟨x, hx⟩ : ∃ x, l[k] = x := ⟨_, rfl⟩
              rw [hx] at r0 r1 r2 hms hxs
              have HX := Lib.hid (And.intro hms (And.intro hxs (And.intro hbb (And.intro r0 (And.intro r1 r2)))))
              have k1 : (0 : Int) ≤ (k : Int) := by omega
              have k2 : (k : Int) < (l.length : Int) := by omega
              have hxl : x.ms.length ≤ 4000 := hxs.2.1
              clear hx hms hxs hbb r0 r1 r2
              have hcl := fun (W : World) (hs : Sm No w W) => And.intro (hs.cell HX.out.2.2.1 HX.out.2.2.2.1) (And.intro (hs.cell HX.out.2.2.1 HX.out.2.2.2.2.1) (hs.cell HX.out.2.2.1 HX.out.2.2.2.2.2))
              have HCl := Lib.hid hcl
              have hbl := Nat.lt_of_lt_of_le HX.out.2.2.1 HP.out.1.sm.size
              obtain ⟨r0, r1, r2⟩ := hcl wr HP.out.1.sm
              have hA0 : x.ma = none → x.ms.length = 0 ∧ x.mc = 0 := fun e => by
                refine ⟨?_, HX.out.1.2.2.2.2 e⟩
                have := HX.out.1.2.1
                have := HX.out.1.2.2.2.2 e
                omega
              have hse : Sm No w (wr.alloc (.cells #[] 9)) := HP.out.1.sm.alloc _
              have hl : (bytesL x.ms).length = x.ms.length := by simp [bytesL]
              have HE := Lib.hid (And.intro hA0 (And.intro (own_empty wr 9 1 (B := w.heap.size) HP.out.1.sm.size) (And.intro (srow_rowC (HX.out.1.1.no hse)) (And.intro hse.size hl))))
              obtain ⟨cc, hcc⟩ : ∃ cc, addC L (toLt x) = cc := ⟨_, rfl⟩
              have HCc := Lib.hid hcc
              clear hcl hA0 hse hl hcc
              go_wp2_with (refine wpList_push_opt rfl (.tmp 55) (.tmp 60) 39 9 rfl Tryd.underlying39 _ 1 16 infoStr rfl (by decide) (by decide) w.heap.size 0 _ [] rfl HE.out.2.1 x.ma x.ms.length x.mc ((bytesL x.ms).map strV) rfl HE.out.1 (by simp [bytesL]) HE.out.2.2.1 (strs_one _) (by omega) HE.out.2.2.2.1 ?_; intro v5 w5 hown5 hs5 hv5)
              have hown5' : w5.ownsRow w.heap.size 9 1 v5 (bytesL x.ms).length ((bytesL x.ms).map strV) := by
                rw [Nat.zero_add, List.nil_append] at hown5
                rw [HE.out.2.2.2.2]; exact hown5
              obtain ⟨Am, cm, rfl, hRm, _, hnm⟩ := own_rowC hown5'
              rw [HE.out.2.2.2.2] at hown5 ⊢
              have hs15 : Sm No wr w5 := ((((Sm.refl No wr).alloc (.cells #[] 9)).any _).trans hs5 (fun _ _ e => e)).mono (fun b hb e => by
                have e' : some wr.heap.size = some b := e
                injection e' with e'
                omega)
              obtain ⟨Kb, hKb⟩ : ∃ Kb : Nat → Prop, Kb = (fun b => ∃ a, Am = some a ∧ a.block = b) := ⟨_, rfl⟩
              have hKf : ∀ b, Kb b → wr.heap.size ≤ b ∧ b < w5.heap.size := fun b hb => by
                rw [hKb] at hb
                obtain ⟨a, ha, rfl⟩ := hb
                have h2 := (World.ownsRow.lt hown5' a.block (by rw [ha]; rfl)).2
                refine ⟨?_, h2⟩
                rw [ha] at hv5
                rcases hv5 with e | e
                · have e' : some a.block = some wr.heap.size := e
                  injection e' with e'; omega
                · have e' : some a.block = some (wr.alloc (.cells #[] 9)).heap.size := e
                  injection e' with e'
                  simp at e'; omega
              have hrow : ∀ W W', RowC W Am ((bytesL x.ms).map strV) → Sm (fun b => ¬ Kb b) W W' → RowC W' Am ((bytesL x.ms).map strV) := fun W W' h hs => h.sm hs (fun a ha hn => hn (by rw [hKb]; exact ⟨a, ha, rfl⟩))
              have HM := Lib.hid (And.intro hRm (And.intro hnm (And.intro (HP.out.1.fresh hs15 hKf) hrow)))
              have HAd := Lib.hid (padd (A := Am) (c := cm) (x := x) (HM.out.2.2.1.no (Sm.refl No w5).drew) HA.out.2.2 HP.out.2.2 HX.out.2.1 (HM.out.1.no (Sm.refl No w5).drew) HM.out.2.1)
              have HRd := Lib.hid (fun (W : World) (h : PK w W Kb ra rx (addS L (toLt x)) L) => pradd (x := x) h HP.out.2.2 HX.out.2.1 HX.out.1)
              have HTx := Lib.hid (fun (W : World) (h : RowC W Am ((bytesL x.ms).map strV)) (hs : Sm No w W) => texts_laid (mc := cm) (d := x.mc) h (srow_rowC (HX.out.1.1.no hs)) hxl)
              obtain ⟨L', hL'⟩ : ∃ L', addS L (toLt x) = L' := ⟨_, rfl⟩
              have hFT : FineT L' := by rw [← hL']; exact HP.out.2.add (by simpa [toLt, bytesL] using hxl)
              rw [HCc.out, hL'] at HAd
              simp only [HCc.out, hL'] at HRd
              have HFT := Lib.hid hFT
              clear hL' hFT HCc
              clear r0 r1 r2
              obtain ⟨r0, r1, r2⟩ := HCl.out w5 HM.out.2.2.1.sm
              clear hown5 hs5 hv5 hown5' hRm hnm hs15 hKf hKb hrow
              go_wp2_with fail
              refine wp_region_noPanic ?_
              refine wp_region_held_drew (S := fun w' => w'.cell? ⟨bb, off + k * 3, none⟩ = some (.string x.pat) ∧ w'.cell? ⟨bb, off + k * 3 + 1, none⟩ = some (.int .i64 x.id) ∧ w'.cell? ⟨bb, off + k * 3 + 2, none⟩ = some (.slice x.ma x.ms.length x.mc)) (by kernel_rfl) ⟨r0, r1, r2⟩ (fun hHeld => ?_)
              refine' wpAnyH_take (i := 0) (oi := _) (v := _) rfl (by kernel_rfl) (by kernel_rfl) (by kernel_rfl) (fun _ _ _ h => h) (Or.inl ⟨by rfl, ?hy0⟩) (by assumption) ?rt0
              case hy0 => ((intro w hSw); clear hSw; go_simp; try (with_reducible rfl))
              try simp only [Act.put, List.setIfInBounds_toArray, List.set_cons_zero, List.set_cons_succ]
              refine' wpAnyH_take (i := 1) (oi := _) (v := _) rfl (by kernel_rfl) (by kernel_rfl) (by kernel_rfl) (fun _ _ _ h => h) (Or.inl ⟨by rfl, ?hy1⟩) (by assumption) ?rt1
              case hy1 => ((intro w hSw); clear hSw; go_simp; try (with_reducible rfl))
              try simp only [Act.put, List.setIfInBounds_toArray, List.set_cons_zero, List.set_cons_succ]
              refine' wpAnyH_take (i := 2) (oi := _) (v := _) rfl (by kernel_rfl) (by kernel_rfl) (by kernel_rfl) (fun _ _ _ h => h) (Or.inl ⟨by rfl, ?hy2⟩) (by assumption) ?rt2
              case hy2 => ((intro w hSw); clear hSw; go_simp; try (with_reducible rfl))
              try simp only [Act.put, List.setIfInBounds_toArray, List.set_cons_zero, List.set_cons_succ]
              refine' wpAnyH_take (i := 3) (oi := _) (v := _) rfl (by kernel_rfl) (by kernel_rfl) (by kernel_rfl) (fun _ _ _ h => h) (Or.inl ⟨by rfl, ?hy3⟩) (by assumption) ?rt3
              case hy3 => ((intro w hSw); clear hSw; go_simp; try (with_reducible rfl))
              try simp only [Act.put, List.setIfInBounds_toArray, List.set_cons_zero, List.set_cons_succ]
              refine' wpAnyH_take (i := 4) (oi := _) (v := _) rfl (by kernel_rfl) (by kernel_rfl) (by kernel_rfl) (fun _ _ _ h => h) (Or.inl ⟨by rfl, ?hy4⟩) (by assumption) ?rt4
              case hy4 => ((intro w hSw); clear hSw; go_simp; try (with_reducible rfl))
              try simp only [Act.put, List.setIfInBounds_toArray, List.set_cons_zero, List.set_cons_succ]
              refine' wpAnyH_take (i := 5) (oi := _) (v := _) rfl (by kernel_rfl) (by kernel_rfl) (by kernel_rfl) (fun _ _ _ h => h) (Or.inl ⟨by rfl, ?hy5⟩) (by assumption) ?rt5
              case hy5 => ((intro w hSw); (have hSx := hSw.1); clear hSw; go_simp; try (with_reducible rfl))
              try simp only [Act.put, List.setIfInBounds_toArray, List.set_cons_zero, List.set_cons_succ]
              refine' wpAnyH_take (i := 6) (oi := _) (v := _) rfl (by kernel_rfl) (by kernel_rfl) (by kernel_rfl) (fun _ _ _ h => h) (Or.inl ⟨by rfl, ?hy6⟩) (by assumption) ?rt6
              case hy6 => ((intro w hSw); clear hSw; go_simp; try (with_reducible rfl))
              try simp only [Act.put, List.setIfInBounds_toArray, List.set_cons_zero, List.set_cons_succ]
              refine' wpAnyH_take (i := 7) (oi := _) (v := _) rfl (by kernel_rfl) (by kernel_rfl) (by kernel_rfl) (fun _ _ _ h => h) (Or.inl ⟨by rfl, ?hy7⟩) (by assumption) ?rt7
              case hy7 => ((intro w hSw); clear hSw; go_simp; try (with_reducible rfl))
              try simp only [Act.put, List.setIfInBounds_toArray, List.set_cons_zero, List.set_cons_succ]
              refine' wpAnyH_take (i := 8) (oi := _) (v := _) rfl (by kernel_rfl) (by kernel_rfl) (by kernel_rfl) (fun _ _ _ h => h) (Or.inl ⟨by rfl, ?hy8⟩) (by assumption) ?rt8
              case hy8 => ((intro w hSw); clear hSw; go_simp; try (with_reducible rfl))
              try simp only [Act.put, List.setIfInBounds_toArray, List.set_cons_zero, List.set_cons_succ]
              refine' wpAnyH_take (i := 9) (oi := _) (v := _) rfl (by kernel_rfl) (by kernel_rfl) (by kernel_rfl) (fun _ _ _ h => h) (Or.inl ⟨by rfl, ?hy9⟩) (by assumption) ?rt9
              case hy9 => ((intro w hSw); clear hSw; go_simp; try (with_reducible rfl))
              try simp only [Act.put, List.setIfInBounds_toArray, List.set_cons_zero, List.set_cons_succ]
              refine' wpAnyH_take (i := 10) (oi := _) (v := _) rfl (by kernel_rfl) (by kernel_rfl) (by kernel_rfl) (fun _ _ _ h => h) (Or.inl ⟨by rfl, ?hy10⟩) (by assumption) ?rt10
              case hy10 => ((intro w hSw); (have hSx := hSw.2.1); clear hSw; go_simp; try (with_reducible rfl))
              try simp only [Act.put, List.setIfInBounds_toArray, List.set_cons_zero, List.set_cons_succ]
              refine' wpAnyH_take (i := 11) (oi := _) (v := _) rfl (by kernel_rfl) (by kernel_rfl) (by kernel_rfl) (fun _ _ _ h => h) (Or.inl ⟨by rfl, ?hy11⟩) (by assumption) ?rt11
              case hy11 => ((intro w hSw); clear hSw; go_simp; try (with_reducible rfl))
              try simp only [Act.put, List.setIfInBounds_toArray, List.set_cons_zero, List.set_cons_succ]
              refine' wpAnyH_take (i := 13) (oi := _) (v := _) rfl (by kernel_rfl) (by kernel_rfl) (by kernel_rfl) (fun _ _ _ h => h) (Or.inl ⟨by rfl, ?hy13⟩) (by assumption) ?rt13
              case hy13 => ((intro w hSw); clear hSw; go_simp; try (with_reducible rfl))
              try simp only [Act.put, List.setIfInBounds_toArray, List.set_cons_zero, List.set_cons_succ]
              refine' wpAnyH_take (i := 14) (oi := _) (v := _) rfl (by kernel_rfl) (by kernel_rfl) (by kernel_rfl) (fun _ _ _ h => h) (Or.inl ⟨by rfl, ?hy14⟩) (by assumption) ?rt14
              case hy14 => ((intro w hSw); clear hSw; go_simp; try (with_reducible rfl))
              try simp only [Act.put, List.setIfInBounds_toArray, List.set_cons_zero, List.set_cons_succ]
              refine' wpAnyH_take (i := 15) (oi := _) (v := _) rfl (by kernel_rfl) (by kernel_rfl) (by kernel_rfl) (fun _ _ _ h => h) (Or.inl ⟨by rfl, ?hy15⟩) (by assumption) ?rt15
              case hy15 => ((intro w hSw); clear hSw; go_simp; try (with_reducible rfl))
              try simp only [Act.put, List.setIfInBounds_toArray, List.set_cons_zero, List.set_cons_succ]
              refine' wpAnyH_take (i := 16) (oi := _) (v := _) rfl (by kernel_rfl) (by kernel_rfl) (by kernel_rfl) (fun _ _ _ h => h) (Or.inl ⟨by rfl, ?hy16⟩) (by assumption) ?rt16
              case hy16 => ((intro w hSw); clear hSw; go_simp; try (with_reducible rfl))
              try simp only [Act.put, List.setIfInBounds_toArray, List.set_cons_zero, List.set_cons_succ]
              refine' wpAnyH_take (i := 17) (oi := _) (v := _) rfl (by kernel_rfl) (by kernel_rfl) (by kernel_rfl) (fun _ _ _ h => h) (Or.inl ⟨by rfl, ?hy17⟩) (by assumption) ?rt17
              case hy17 => ((intro w hSw); clear hSw; go_simp; try (with_reducible rfl))
              try simp only [Act.put, List.setIfInBounds_toArray, List.set_cons_zero, List.set_cons_succ]
              refine' wpAnyH_take (i := 18) (oi := _) (v := _) rfl (by kernel_rfl) (by kernel_rfl) (by kernel_rfl) (fun _ _ _ h => h) (Or.inl ⟨by rfl, ?hy18⟩) (by assumption) ?rt18
              case hy18 => ((intro w hSw); (have hSx := hSw.1); clear hSw; go_simp; try (with_reducible rfl))
              try simp only [Act.put, List.setIfInBounds_toArray, List.set_cons_zero, List.set_cons_succ]
              refine' wpAnyH_take (i := 19) (oi := _) (v := _) rfl (by kernel_rfl) (by kernel_rfl) (by kernel_rfl) (fun _ _ _ h => h) (Or.inl ⟨by rfl, ?hy19⟩) (by assumption) ?rt19
              case hy19 => ((intro w hSw); clear hSw; go_simp; try (with_reducible rfl))
              try simp only [Act.put, List.setIfInBounds_toArray, List.set_cons_zero, List.set_cons_succ]
              refine' wpAnyH_take (i := 20) (oi := _) (v := _) rfl (by kernel_rfl) (by kernel_rfl) (by kernel_rfl) (fun _ _ _ h => h) (Or.inl ⟨by rfl, ?hy20⟩) (by assumption) ?rt20
              case hy20 => ((intro w hSw); clear hSw; go_simp; try (with_reducible rfl))
              try simp only [Act.put, List.setIfInBounds_toArray, List.set_cons_zero, List.set_cons_succ]
              refine' wpAnyH_take (i := 21) (oi := _) (v := _) rfl (by kernel_rfl) (by kernel_rfl) (by kernel_rfl) (fun _ _ _ h => h) (Or.inl ⟨by rfl, ?hy21⟩) (by assumption) ?rt21
              case hy21 => ((intro w hSw); clear hSw; go_simp; try (with_reducible rfl))
              try simp only [Act.put, List.setIfInBounds_toArray, List.set_cons_zero, List.set_cons_succ]
              refine' wpAnyH_take (i := 22) (oi := _) (v := _) rfl (by kernel_rfl) (by kernel_rfl) (by kernel_rfl) (fun _ _ _ h => h) (Or.inl ⟨by rfl, ?hy22⟩) (by assumption) ?rt22
              case hy22 => ((intro w hSw); clear hSw; go_simp; try (with_reducible rfl))
              try simp only [Act.put, List.setIfInBounds_toArray, List.set_cons_zero, List.set_cons_succ]
              refine' wpAnyH_take (i := 23) (oi := _) (v := _) rfl (by kernel_rfl) (by kernel_rfl) (by kernel_rfl) (fun _ _ _ h => h) (Or.inl ⟨by rfl, ?hy23⟩) (by assumption) ?rt23
              case hy23 => ((intro w hSw); (have hSx := hSw.2.1); clear hSw; go_simp; try (with_reducible rfl))
              try simp only [Act.put, List.setIfInBounds_toArray, List.set_cons_zero, List.set_cons_succ]
              refine' wpAnyH_take (i := 24) (oi := _) (v := _) rfl (by kernel_rfl) (by kernel_rfl) (by kernel_rfl) (fun _ _ _ h => h) (Or.inl ⟨by rfl, ?hy24⟩) (by assumption) ?rt24
              case hy24 => ((intro w hSw); clear hSw; go_simp; try (with_reducible rfl))
              try simp only [Act.put, List.setIfInBounds_toArray, List.set_cons_zero, List.set_cons_succ]
              refine' wpAnyH_take (i := 25) (oi := _) (v := _) rfl (by kernel_rfl) (by kernel_rfl) (by kernel_rfl) (fun _ _ _ h => h) (Or.inl ⟨by rfl, ?hy25⟩) (by assumption) ?rt25
              case hy25 => ((intro w hSw); clear hSw; go_simp; try (with_reducible rfl))
              try simp only [Act.put, List.setIfInBounds_toArray, List.set_cons_zero, List.set_cons_succ]
              refine' wpAnyH_take (i := 26) (oi := _) (v := _) rfl (by kernel_rfl) (by kernel_rfl) (by kernel_rfl) (fun _ _ _ h => h) (Or.inl ⟨by rfl, ?hy26⟩) (by assumption) ?rt26
              case hy26 => ((intro w hSw); clear hSw; go_simp; try (with_reducible rfl))
              try simp only [Act.put, List.setIfInBounds_toArray, List.set_cons_zero, List.set_cons_succ]
              refine' wpAnyH_take (i := 27) (oi := _) (v := _) rfl (by kernel_rfl) (by kernel_rfl) (by kernel_rfl) (fun _ _ _ h => h) (Or.inl ⟨by rfl, ?hy27⟩) (by assumption) ?rt27
              case hy27 => ((intro w hSw); clear hSw; go_simp; try (with_reducible rfl))
              try simp only [Act.put, List.setIfInBounds_toArray, List.set_cons_zero, List.set_cons_succ]
              refine' wpAnyH_take (i := 28) (oi := _) (v := _) rfl (by kernel_rfl) (by kernel_rfl) (by kernel_rfl) (fun _ _ _ h => h) (Or.inl ⟨by rfl, ?hy28⟩) (by assumption) ?rt28
              case hy28 => ((intro w hSw); (have hSx := hSw.2.2); clear hSw; go_simp; try (with_reducible rfl))
              try simp only [Act.put, List.setIfInBounds_toArray, List.set_cons_zero, List.set_cons_succ]
              refine wpAnyH_ready (rs := [12]) (by kernel_rfl) (by simp) ?_
              refine AllReadyH.cons (o := _) rfl (fun K hK => ?_) AllReadyH.nil
              go_simp
              refine HAd.out.mono ?_
              rintro e w6 ⟨rfl, hP6, hs6⟩
              have HP6 := Lib.hid (And.intro hP6 (HM.out.2.2.2 _ _ (HM.out.1.no (Sm.refl No w5).drew) hs6))
              obtain ⟨q0, q1, q2⟩ := HCl.out w6 hP6.sm
              clear hP6 hs6
              go_wp2_with fail
              refine hK.out _ _ ⟨q0, q1, q2⟩ (fun hHeld2 => ?_)
              clear hK hHeld r0 r1 r2
              refine wpAnyH_ready (rs := [29]) (by kernel_rfl) (by simp) ?_
              refine AllReadyH.cons (o := _) rfl (fun K hK => ?_) AllReadyH.nil
              go_simp
              refine (HRd.out w6 HP6.out.1).mono ?_
              rintro e w7 ⟨rfl, hP7, hs7⟩
              have HP7 := Lib.hid (And.intro hP7 (HM.out.2.2.2 _ _ HP6.out.2 hs7))
              obtain ⟨p0, p1, p2⟩ := HCl.out w7 hP7.sm
              obtain ⟨AX, cX, cx⟩ := hP7.cell
              obtain ⟨nL, hnL⟩ : ∃ n : Nat, L'.length = n := ⟨_, rfl⟩
              have hln := plen hP7
              rw [hnL] at cx hln
              have HLn := Lib.hid hln
              clear hP7 hs7 hln hnL
              go_wp2_with fail
              refine hK.out _ _ ⟨p0, p1, p2⟩ (fun _ => ?_)
              clear hK hHeld2 q0 q1 q2
              refine wpAnyH_mono (S2 := fun w' => w'.cell? ⟨bb, off + k * 3, none⟩ = some (.string x.pat) ∧ w'.cell? ⟨bb, off + k * 3 + 1, none⟩ = some (.int .i64 x.id) ∧ w'.cell? ⟨bb, off + k * 3 + 2, none⟩ = some (.slice x.ma x.ms.length x.mc) ∧ w'.cell? ⟨rx, 0, none⟩ = some (.slice AX nL cX)) (fun _ h => ⟨h.1, h.2.1, h.2.2.1⟩) _ _ _ _ ?_
              have hHeld3 : (fun w' : World => w'.cell? ⟨bb, off + k * 3, none⟩ = some (.string x.pat) ∧ w'.cell? ⟨bb, off + k * 3 + 1, none⟩ = some (.int .i64 x.id) ∧ w'.cell? ⟨bb, off + k * 3 + 2, none⟩ = some (.slice x.ma x.ms.length x.mc) ∧ w'.cell? ⟨rx, 0, none⟩ = some (.slice AX nL cX)) w7 := ⟨p0, p1, p2, cx⟩
              refine' wpAnyH_take (i := 30) (oi := _) (v := _) rfl (by kernel_rfl) (by kernel_rfl) (by kernel_rfl) (fun _ _ _ h => h) (Or.inl ⟨by rfl, ?hy30⟩) (by assumption) ?rt30
              case hy30 => ((intro w hSw); clear hSw; go_simp; try (with_reducible rfl))
              try simp only [Act.put, List.setIfInBounds_toArray, List.set_cons_zero, List.set_cons_succ]
              refine' wpAnyH_take (i := 31) (oi := _) (v := _) rfl (by kernel_rfl) (by kernel_rfl) (by kernel_rfl) (fun _ _ _ h => h) (Or.inl ⟨by rfl, ?hy31⟩) (by assumption) ?rt31
              case hy31 => ((intro w hSw); clear hSw; go_simp; try (with_reducible rfl))
              try simp only [Act.put, List.setIfInBounds_toArray, List.set_cons_zero, List.set_cons_succ]
              refine' wpAnyH_take (i := 32) (oi := _) (v := _) rfl (by kernel_rfl) (by kernel_rfl) (by kernel_rfl) (fun _ _ _ h => h) (Or.inl ⟨by rfl, ?hy32⟩) (by assumption) ?rt32
              case hy32 => ((intro w hSw); clear hSw; go_simp; try (with_reducible rfl))
              try simp only [Act.put, List.setIfInBounds_toArray, List.set_cons_zero, List.set_cons_succ]
              refine' wpAnyH_take (i := 34) (oi := _) (v := _) rfl (by kernel_rfl) (by kernel_rfl) (by kernel_rfl) (fun _ _ _ h => h) (Or.inl ⟨by rfl, ?hy34⟩) (by assumption) ?rt34
              case hy34 => ((intro w hSw); clear hSw; go_simp; try (with_reducible rfl))
              try simp only [Act.put, List.setIfInBounds_toArray, List.set_cons_zero, List.set_cons_succ]
              refine' wpAnyH_take (i := 35) (oi := _) (v := _) rfl (by kernel_rfl) (by kernel_rfl) (by kernel_rfl) (fun _ _ _ h => h) (Or.inl ⟨by rfl, ?hy35⟩) (by assumption) ?rt35
              case hy35 => ((intro w hSw); clear hSw; go_simp; try (with_reducible rfl))
              try simp only [Act.put, List.setIfInBounds_toArray, List.set_cons_zero, List.set_cons_succ]
              refine' wpAnyH_take (i := 36) (oi := _) (v := _) rfl (by kernel_rfl) (by kernel_rfl) (by kernel_rfl) (fun _ _ _ h => h) (Or.inl ⟨by rfl, ?hy36⟩) (by assumption) ?rt36
              case hy36 => ((intro w hSw); clear hSw; go_simp; try (with_reducible rfl))
              try simp only [Act.put, List.setIfInBounds_toArray, List.set_cons_zero, List.set_cons_succ]
              refine' wpAnyH_take (i := 37) (oi := _) (v := _) rfl (by kernel_rfl) (by kernel_rfl) (by kernel_rfl) (fun _ _ _ h => h) (Or.inl ⟨by rfl, ?hy37⟩) (by assumption) ?rt37
              case hy37 => ((intro w hSw); (have hSx := hSw.2.2.2); clear hSw; go_simp; try (with_reducible rfl))
              try simp only [Act.put, List.setIfInBounds_toArray, List.set_cons_zero, List.set_cons_succ]
              refine' wpAnyH_take (i := 38) (oi := _) (v := .int .i64 nL) rfl (by kernel_rfl) (by kernel_rfl) (by kernel_rfl) (fun _ _ _ h => h) (Or.inl ⟨by rfl, ?hy38⟩) (by assumption) ?rt38
              case hy38 => ((intro w hSw); clear hSw; go_simp; try (with_reducible rfl))
              try simp only [Act.put, List.setIfInBounds_toArray, List.set_cons_zero, List.set_cons_succ]
              refine wpAnyH_ready (rs := [33]) (by kernel_rfl) (by simp) ?_
              refine AllReadyH.cons (o := _) rfl (fun K hK => ?_) AllReadyH.nil
              go_simp
              refine HLn.out.mono ?_
              rintro e w8 ⟨rfl, rfl⟩
              go_wp2_with fail
              refine hK.out _ _ ⟨p0, p1, p2, cx⟩ (fun _ => ?_)
              clear hK
              refine' wpAnyH_take (i := 39) (oi := _) (v := .bool false) rfl (by kernel_rfl) (by kernel_rfl) (by kernel_rfl) (fun _ _ _ h => h) (Or.inl ⟨by rfl, ?hy39⟩) (by assumption) ?rt39
              case hy39 => ((intro w hSw); clear hSw; go_simp; try (with_reducible rfl))
              try simp only [Act.put, List.setIfInBounds_toArray, List.set_cons_zero, List.set_cons_succ]
              refine' wpAnyH_take (i := 40) (oi := _) (v := .bool false) rfl (by kernel_rfl) (by kernel_rfl) (by kernel_rfl) (fun _ _ _ h => h) (Or.inl ⟨by rfl, ?hy40⟩) (by assumption) ?rt40
              case hy40 => ((intro w hSw); clear hSw; go_simp; try (with_reducible rfl))
              try simp only [Act.put, List.setIfInBounds_toArray, List.set_cons_zero, List.set_cons_succ]
              refine' wpAnyH_take (i := 41) (oi := _) (v := .bool false) rfl (by kernel_rfl) (by kernel_rfl) (by kernel_rfl) (fun _ _ _ h => h) (Or.inl ⟨by rfl, ?hy41⟩) (by assumption) ?rt41
              case hy41 => ((intro w hSw); clear hSw; go_simp; try (with_reducible rfl))
              try simp only [Act.put, List.setIfInBounds_toArray, List.set_cons_zero, List.set_cons_succ]
              refine' wpAnyH_take (i := 42) (oi := _) (v := .slice Am x.ms.length cm) rfl (by kernel_rfl) (by kernel_rfl) (by kernel_rfl) (fun _ _ _ h => h) (Or.inl ⟨by rfl, ?hy42⟩) (by assumption) ?rt42
              case hy42 => ((intro w hSw); clear hSw; go_simp; try (with_reducible rfl))
              try simp only [Act.put, List.setIfInBounds_toArray, List.set_cons_zero, List.set_cons_succ]
              refine' wpAnyH_take (i := 43) (oi := _) (v := .slice (some ⟨bb, off, none⟩) l.length c) rfl (by kernel_rfl) (by kernel_rfl) (by kernel_rfl) (fun _ _ _ h => h) (Or.inl ⟨by rfl, ?hy43⟩) (by assumption) ?rt43
              case hy43 => ((intro w hSw); clear hSw; go_simp; try (with_reducible rfl))
              try simp only [Act.put, List.setIfInBounds_toArray, List.set_cons_zero, List.set_cons_succ]
              refine' wpAnyH_take (i := 44) (oi := _) (v := .int .i64 k) rfl (by kernel_rfl) (by kernel_rfl) (by kernel_rfl) (fun _ _ _ h => h) (Or.inl ⟨by rfl, ?hy44⟩) (by assumption) ?rt44
              case hy44 => ((intro w hSw); clear hSw; go_simp; try (with_reducible rfl))
              try simp only [Act.put, List.setIfInBounds_toArray, List.set_cons_zero, List.set_cons_succ]
              refine' wpAnyH_take (i := 45) (oi := _) (v := .pointer (some ⟨bb, off + k * 3, none⟩)) rfl (by kernel_rfl) (by kernel_rfl) (by kernel_rfl) (fun _ _ _ h => h) (Or.inl ⟨by rfl, ?hy45⟩) (by assumption) ?rt45
              case hy45 => ((intro w hSw); clear hSw; go_simp; try (with_reducible rfl))
              try simp only [Act.put, List.setIfInBounds_toArray, List.set_cons_zero, List.set_cons_succ]
              refine' wpAnyH_take (i := 46) (oi := _) (v := .pointer (some ⟨bb, off + k * 3 + 2, none⟩)) rfl (by kernel_rfl) (by kernel_rfl) (by kernel_rfl) (fun _ _ _ h => h) (Or.inl ⟨by rfl, ?hy46⟩) (by assumption) ?rt46
              case hy46 => ((intro w hSw); clear hSw; go_simp; try (with_reducible rfl))
              try simp only [Act.put, List.setIfInBounds_toArray, List.set_cons_zero, List.set_cons_succ]
              refine' wpAnyH_take (i := 47) (oi := _) (v := .slice x.ma x.ms.length x.mc) rfl (by kernel_rfl) (by kernel_rfl) (by kernel_rfl) (fun _ _ _ h => h) (Or.inl ⟨by rfl, ?hy47⟩) (by assumption) ?rt47
              case hy47 => ((intro w hSw); (have hSx := hSw.2.2.1); clear hSw; go_simp; try (with_reducible rfl))
              try simp only [Act.put, List.setIfInBounds_toArray, List.set_cons_zero, List.set_cons_succ]
              refine wpAnyH_ready (rs := [48]) (by kernel_rfl) (by simp) ?_
              refine AllReadyH.cons (o := _) rfl (fun K hK => ?_) AllReadyH.nil
              go_simp
              refine (HTx.out _ HP7.out.2 HP7.out.1.sm).mono ?_
              rintro e w9 ⟨rfl, hs9⟩
              have H9 := Lib.hid (HP7.out.1.no hs9).free
              obtain ⟨n0, n1, n2⟩ := HCl.out w9 H9.out.sm
              have cx9 := hs9.cell (World.block_lt_of_cell? _ _ cx) cx
              clear hs9
              go_wp2_with fail
              refine hK.out _ _ ⟨n0, n1, n2, cx9⟩ (fun hHeld4 => ?_)
              clear hK hHeld3 p0 p1 p2 cx
              refine' wpAnyH_take (i := 49) (oi := _) (v := .bool false) rfl (by kernel_rfl) (by kernel_rfl) (by kernel_rfl) (fun _ _ _ h => h) (Or.inl ⟨by rfl, ?hy49⟩) (by assumption) ?rt49
              case hy49 => ((intro w hSw); clear hSw; go_simp; try (with_reducible rfl))
              try simp only [Act.put, List.setIfInBounds_toArray, List.set_cons_zero, List.set_cons_succ]
              refine' wpAnyH_take (i := 50) (oi := _) (v := .bool false) rfl (by kernel_rfl) (by kernel_rfl) (by kernel_rfl) (fun _ _ _ h => h) (Or.inl ⟨by rfl, ?hy50⟩) (by assumption) ?rt50
              case hy50 => ((intro w hSw); clear hSw; go_simp; try (with_reducible rfl))
              try simp only [Act.put, List.setIfInBounds_toArray, List.set_cons_zero, List.set_cons_succ]
              refine wpAnyH_done (by kernel_rfl) ?_ _
              refine NoPanic.normal ?_
              go_wp2_with fail
              exact ⟨⟨k + 1, L', by omega, by go_num, H9.out, HFT.out⟩, by simp [intOf]; omega⟩
            · go_wp2_with fail
              obtain ⟨wo, hwo⟩ : ∃ wo : World, wo = wr := ⟨_, rfl⟩
              rw [← hwo] at HP
              have HW := Lib.hid hwo
              go_loopw [13] (fun i wr => PmRel w ps.length ra rx L i wr) (fun i _ => ps.length - (intOf i).toNat)
              case atStart => exact ⟨0, Nat.zero_le _, rfl, HW.out ▸ HP.out.1⟩
              case round =>
                obtain ⟨k3, hk3, rfl, hP3⟩ := hrel
                have HP3 := Lib.hid hP3
                clear hP3
                by_cases hlt3 : k3 < ps.length
                · obtain ⟨bb, off, hBe, hbb, r0⟩ := (HA.out.2.1.1.no HP3.out.sm) k3 hlt3
                  subst hBe
                  have hpz := HAll.out _ (List.getElem_mem hlt3)
                  have hget := fun (W : World) (hs : Sm No w W) => (HA.out.2.1.1.no hs) k3 hlt3
                  obtain ⟨p, hp⟩ : ∃ p, ps[k3] = p := ⟨_, rfl⟩
                  rw [hp] at r0 hpz
                  simp only [hp] at hget
                  have HGt := Lib.hid hget
                  have k1 : (0 : Int) ≤ (k3 : Int) := by omega
                  have k2 : (k3 : Int) < (ps.length : Int) := by omega
                  obtain ⟨⟨i, rest, al, st⟩, hM⟩ : ∃ M, matchL L (txt m) (txt p) = M := ⟨_, rfl⟩
                  have HMa := Lib.hid (pmatch m p hM HP3.out HP.out.2.2 (by omega))
                  have HMb := Lib.hid (fun (W : World) (hs : Sm No wr W) => prmatch m p hM (HP3.out.no hs) HP.out.2.2 HP.out.2.pat (by omega))
                  have HAl := Lib.hid (show al.length ≤ 1000000 from by
                    have := match_few L (txt m) (txt p) HP.out.2.2
                    rw [hM] at this
                    exact this)
                  obtain ⟨rb, hrb⟩ : ∃ rb : ByteArray, strB rest = .string rb := ⟨_, rfl⟩
                  rw [hrb] at HMa HMb
                  clear hp hget hM hrb
                  go_wp2_with fail
                  refine HMa.out.mono ?_
                  rintro e w3 ⟨A3, c3, rfl, hR3, hs3⟩
                  have H3 := Lib.hid (And.intro hR3 hs3)
                  obtain ⟨bb2, off2, hBe2, _, r2⟩ := HGt.out w3 (HP3.out.no hs3).sm
                  obtain ⟨rfl, rfl⟩ : bb = bb2 ∧ off = off2 := by injection hBe2 with e; injection e with e1 e2; exact ⟨e1, e2⟩
                  clear hR3 hs3 r0 hBe2
                  go_wp2_with fail
                  refine (HMb.out w3 H3.out.2).mono ?_
                  rintro e w4 ⟨A4, c4, rfl, hR4, hs4⟩
                  have H4 := Lib.hid (And.intro (H3.out.1.no hs4) (And.intro hR4 (H3.out.2.trans hs4 (fun _ _ h => h))))
                  clear hR4 hs4 r2
                  go_wp2_with fail
                  refine (texts19_any w4 A3 A4 c3 c4 al H4.out.1 H4.out.2.1 HAl.out).mono ?_
                  rintro e w5 ⟨rfl, hs5⟩
                  have H5 := Lib.hid (HP3.out.no (H4.out.2.2.trans hs5 (fun _ _ h => h)))
                  clear hs5
                  go_wp2_with fail
                  exact ⟨⟨k3 + 1, by omega, by go_num, H5.out⟩, by simp [intOf]; omega⟩
                · have HK := Lib.hid (known19_any wr (HA.out.2.2.no HP3.out.sm))
                  go_wp2_with fail
                  refine HK.out.mono ?_
                  rintro e w6 ⟨rfl, hs6⟩
                  have H6 := Lib.hid (HP3.out.sm.trans hs6 (fun _ _ h => h))
                  clear hs6
                  go_wp2_with fail
                  go_ret
                  exact ⟨rfl, H6.out⟩
        · go_wp2_with fail
          go_ret
          exact ⟨rfl, HS0.out⟩
      · clear hsm hs0
        go_wp2_with fail
        go_ret
        exact ⟨rfl, HS0.out⟩
end Go.Proofs.YtnopbhboamembaaDoor
