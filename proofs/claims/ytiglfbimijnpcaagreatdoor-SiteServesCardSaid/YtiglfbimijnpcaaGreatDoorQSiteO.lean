/- The law SiteHeads: its walk. -/
import Derived.Test.YtiglfbimijnpcaaGreatDoorQSiteK
import Derived.Test.YtiglfbimijnpcaaGreatDoorQSiteE
import Derived.Test.YtiglfbimijnpcaaGreatDoorQBits
namespace Go.Proofs.YtiglfbimijnpcaaGreatDoor
open Go.RowKit Go.Proofs

def q00 : Rq := ⟨⟨#[]⟩, 0, ⟨#[]⟩, ⟨#[]⟩, ⟨#[]⟩, 0, [], [], false, false⟩
theorem argR0 (w : World) : ArgR w q00 none 0 none 0 :=
  ⟨⟨(fun k hk => absurd hk (Nat.not_lt_zero _)), Nat.le_refl _, Nat.zero_le _, (fun x hx => nomatch hx), (fun _ => rfl)⟩, ⟨RowC.nil _ _, Nat.le_refl _, Nat.zero_le _, (fun _ => rfl)⟩, (by decide), (by decide), (by decide), (by decide), (by decide), (by decide)⟩
theorem light_small {T : List Ent} {q : Rq} (h : Light20 T q) : SmallE T := fun x hx => by
  obtain ⟨a, b, c⟩ := h.2.2.2.1 x hx
  exact ⟨by omega, by omega, by omega⟩
def qE (m path query : ByteArray) : Rq := ⟨m, 1, ⟨#[]⟩, path, query, 0, [], [], false, false⟩
set_option maxHeartbeats 2000000 in
theorem same20_n {n m : Nat} (w : World) (A B : Option Addr) (c d : Nat) (l : List UInt8) (hn : l.length = n) (hm : l.length = m) (hA : RowC w A (byteV l)) (hB : RowC w B (byteV l)) (hl : l.length ≤ 1000000) :
    Calls Tryz.prog 17 #[.slice A n c, .slice B m d] w fun e w' => e = .returned (.bool true) ∧ Sm No w w' := by
  subst hn
  rw [← hm]
  exact same20_any w A B c d l hA hB hl
theorem bytes_run (w : World) (s : ByteArray) (hz : s.size ≤ maxLen) : ∃ cap w', (convert 9 23 (.string s)).run Tryz.prog w = .ok (.slice (some ⟨w.heap.size, 0, none⟩) s.size cap) w' ∧ OwnB w' w.heap.size 5 (.slice (some ⟨w.heap.size, 0, none⟩) s.size cap) s.data.toList ∧ Sm No w w' := by
  have hr := run_bytes_of_string (P := Tryz.prog) w 9 23 5 s Tryz.underlying9 Tryz.underlying23 Tryz.underlying5
  have hsz : s.data.size = s.size := rfl
  have hge := grownCap_ge w s.size 0 5
  have hN : (bytesRow s (grownCap w s.size 0 5)).size = grownCap w s.size 0 5 := by
    simp only [bytesRow, Array.size_append, Array.size_map, Array.size_replicate]
    omega
  refine ⟨_, _, hr, ⟨?_, Or.inr ⟨w.heap.size, _, _, _, ?_, Nat.le_refl _, heap_alloc_new w.drew _, Or.inr ?_, ?_, grownCap_le_maxLen w s.size 0 5 hz, ?_, ?_⟩⟩, ((Sm.refl No w).drew).alloc _⟩
  · rw [byteV_len, Nat.mul_one]
  · rw [Array.length_toList, hsz]
  · exact Nat.le_refl _
  · rw [Array.length_toList, hsz]; exact hge
  · rw [hN, Nat.mul_one]
  · rw [Nat.mul_one, Array.length_toList]
    unfold bytesRow byteV
    rw [Array.toList_append, List.take_append_of_le_length (by simp), List.take_of_length_le (by simp), Array.toList_map]
theorem heads_rc {w : World} {B : Nat} {v : Value} {x : Ent} (h : RspV w B v (entA x)) :
    ∃ A1 c1 A2 nb c2 A3 np c3, v = .agg #[.int .i64 200, .slice A1 1 c1, .slice A2 nb c2, .slice A3 np c3] ∧ (txt x.data).length = nb ∧ (entA x).parts.length = np ∧ RspV w B (.agg #[.int .i64 200, .slice A1 1 c1, .slice A2 nb c2, .slice A3 np c3]) (entA x) := by
  obtain ⟨A1, c1, A2, c2, A3, c3, rfl, _⟩ := h.rc
  exact ⟨A1, c1, A2, _, c2, A3, _, c3, rfl, rfl, rfl, h⟩
theorem heads_rk {w : World} {B : Nat} {v : Value} {l : List UInt8} (h : RspV w B v (okL (txtB sPlain) l)) :
    ∃ A1 c1 A2 nb c2 A3 c3, v = .agg #[.int .i64 200, .slice A1 1 c1, .slice A2 nb c2, .slice A3 0 c3] ∧ l.length = nb ∧ RspV w B (.agg #[.int .i64 200, .slice A1 1 c1, .slice A2 nb c2, .slice A3 0 c3]) (okL (txtB sPlain) l) := by
  obtain ⟨A1, c1, A2, c2, A3, c3, rfl, _⟩ := h.rc
  exact ⟨A1, c1, A2, _, c2, A3, c3, rfl, rfl, h⟩
theorem rsp_body {w : World} {a b d : Value} {A : Option Addr} {n c : Nat} {r : Rsp} (h : RspC w (.agg #[a, b, .slice A n c, d]) r) : RowC w A (byteV r.body) := by
  obtain ⟨A1, c1, A2, c2, A3, c3, e, _, h2, _⟩ := h
  injection e with e
  have e2 := congrArg (fun x => x[2]?) e
  simp at e2
  obtain ⟨rfl, _, _⟩ := e2
  exact h2
theorem ownB_row {w : World} {B g n c : Nat} {t : TypeId} {l : List UInt8} (h : OwnB w B t (.slice (some ⟨g, 0, none⟩) n c) l) : RowC w (some ⟨g, 0, none⟩) (byteV l) := by
  obtain ⟨A, c', e, hR, _⟩ := h.row
  injection e with e1
  rw [e1]
  exact hR
theorem entA_parts (x : Ent) (h : x.data.size ≤ 5000) : (entA x).parts.length ≤ 1000000 := by
  unfold entA
  dsimp only
  split
  · rw [parts_len]; omega
  · exact Nat.zero_le _
set_option maxRecDepth 100000 in
set_option maxHeartbeats 16000000 in
theorem heads20_any (w : World) (hg : G1 w) (At : Option Addr) (T : List Ent) (ct : Nat) (z : Int) (hT : ArgE w At T ct) (_hz : (Lit.int .i64 z).wf = true) :
    Calls Tryz.prog 4 #[.slice At T.length ct, .int .i64 z] w fun e w' => e = .returned (.bool true) ∧ Sm No w w' := by
  have HT := Lib.hid hT
  have HG := Lib.hid hg
  have htl : (T.length : Int) ≤ 4398046511104 := by have := hT.2.1; have := hT.2.2.1; omega
  clear hT hg
  go_enter Tryz.func4, Tryz.ntmps4
  go_wp2_with fail
  refine (heavy20_any w At ct T HT.out q00 none 0 none 0 (argR0 w)).mono ?_
  rintro e w1 ⟨b, rfl, hs1, hL⟩
  have H1 := Lib.hid (And.intro hs1 hL)
  clear hs1 hL
  cases b with
  | true =>
    go_wp2_with fail
    go_ret
    exact ⟨rfl, H1.out.1⟩
  | false =>
    have hL := H1.out.2 rfl
    have hsm := light_small hL
    have hl1 : T.length ≤ 1000 := hL.2.2.1
    have HL := Lib.hid (And.intro hL hsm)
    clear hL hsm
    go_wp2_with fail
    refine (snew_any w1 (HG.out.1.no H1.out.1) At ct T (HT.out.1.no H1.out.1) (fun e => ⟨by have := HT.out.2.1; have := HT.out.2.2.2.2 e; omega, HT.out.2.2.2.2 e⟩) (by omega) HL.out.2).mono ?_
    rintro e w2 hN
    obtain ⟨sc, hsc⟩ : ∃ sc, siteC T = sc := ⟨_, rfl⟩
    unfold NewPost at hN
    have HX := Lib.hid (fun W hR => snewx_any W At ct T hR (fun e => ⟨by have := HT.out.2.1; have := HT.out.2.2.2.2 e; omega, HT.out.2.2.2.2 e⟩) (by omega) HL.out.2)
    unfold NewPostX at HX
    rw [hsc] at hN HX
    by_cases hc0 : sc = 0
    · subst hc0
      obtain ⟨s, O, rfl, hS, hs2, _⟩ := (hN.resolve_right (fun h => h.1 rfl)).2
      have H2 := Lib.hid (And.intro (H1.out.1.trans hs2 (fun _ _ h => h)) hS)
      have HSC := Lib.hid hsc
      clear hN hS hs2 hsc
      go_wp2_with fail
      refine (HX.out w2 (HT.out.1.no H2.out.1)).mono ?_
      rintro e w3 hN
      obtain ⟨x, Q, rfl, _, hs3, _⟩ := (hN.resolve_right (fun h => h.1 rfl)).2
      have HB := Lib.hid (H2.out.1.trans hs3 (fun _ _ h => h))
      have H3 := Lib.hid (H2.out.2.no hs3)
      clear hN hs3 HX
      by_cases h0 : T.length = 0
      · have i1 : (T.length : Int) = 0 := by omega
        go_wp2_with fail
        refine (known20_any _ (HG.out.no HB.out)).mono ?_
        rintro e w9 ⟨rfl, hs9⟩
        have H9 := Lib.hid (HB.out.trans hs9 (fun _ _ h => h))
        clear hs9
        go_wp2_with fail
        go_ret
        exact ⟨rfl, H9.out⟩
      · have i1 : ¬ (T.length : Int) = 0 := by omega
        have i1p : (0 : Int) < (T.length : Int) := by omega
        obtain ⟨wk, hwk, hbits⟩ := and_bd z 65535 (by decide)
        have hbits : bits .and .i64 z (65535 : Int) = (wk : Int) := hbits
        obtain ⟨k, hk⟩ : ∃ k, wk % T.length = k := ⟨_, rfl⟩
        have hkl : k < T.length := by rw [← hk]; exact Nat.mod_lt _ (by omega)
        have hrem : Int.tmod (wk : Int) (T.length : Int) = (k : Int) := by rw [← hk]; rfl
        have hrem2 : (wk : Int) % (T.length : Int) = (k : Int) := by rw [← hk]; rfl
        obtain ⟨x, hx⟩ : ∃ x, T[k]? = some x := ⟨_, List.getElem?_eq_getElem hkl⟩
        obtain ⟨t1, t2, t3⟩ := entCells_at hx
        obtain ⟨bb, off, hAe, hbb, r0⟩ := (HT.out.1.no HB.out).at t1
        subst hAe
        obtain ⟨_, _, hA1, _, r1⟩ := (HT.out.1.no HB.out).at t2
        injection hA1 with hA1; injection hA1 with e1 e2; subst e1 e2
        obtain ⟨_, _, hA1, _, r2⟩ := (HT.out.1.no HB.out).at t3
        injection hA1 with hA1; injection hA1 with e1 e2; subst e1 e2
        rw [show off + (k * 3 + 1) = off + k * 3 + 1 by omega] at r1
        rw [show off + (k * 3 + 2) = off + k * 3 + 2 by omega] at r2
        have k1 : (0 : Int) ≤ (k : Int) := by omega
        have k2 : (k : Int) < (T.length : Int) := by omega
        have hsx := HL.out.1.2.2.2.1 x (List.mem_of_getElem? hx)
        obtain ⟨xp, xt, xd⟩ := x
        obtain ⟨s1, s2, s3⟩ := hsx
        dsimp only at r0 r1 r2 s1 s2 s3
        have HX := Lib.hid hx
        clear t1 t2 t3 hx hk
        go_wp2_with fail
        obtain ⟨b9, hb9⟩ : ∃ b9, w3.heap.size = b9 := ⟨_, rfl⟩
        obtain ⟨w5, hw5⟩ : ∃ w5, (w3.alloc (.cells #[.string xp, .string xt, .string xd] 56)).alloc (.cells #[.string ⟨#[71, 69, 84]⟩, .int .i64 1, .string ⟨#[]⟩, .string xp, .string ⟨#[]⟩, .int .i64 0, .slice none 0 0, .slice none 0 0, .bool false, .bool false] 29) = w5 := ⟨_, rfl⟩
        have hs5 : Sm No w3 w5 := by rw [← hw5]; exact ((Sm.refl No w3).alloc _).alloc _
        have hbE : Bk w5 b9 56 #[.string xp, .string xt, .string xd] := by rw [← hw5, ← hb9]; exact (Bk.new w3 _ _).alloc _
        have hbR : Bk w5 (b9 + 1) 29 #[.string ⟨#[71, 69, 84]⟩, .int .i64 1, .string ⟨#[]⟩, .string xp, .string ⟨#[]⟩, .int .i64 0, .slice none 0 0, .slice none 0 0, .bool false, .bool false] := by rw [← hw5]; exact Bk.newAt _ _ _ (by rw [← hb9]; simp)
        rw [hw5, hb9]
        have H5 := Lib.hid (And.intro (HB.out.trans hs5 (fun _ _ h => h)) (And.intro hs5 (And.intro hbE hbR)))
        have HB9 := Lib.hid hb9
        clear hs5 hbE hbR hw5 hb9 r0 r1 r2
        refine (serve_own HG.out H5.out.1 (H3.out.no H5.out.2.1) HSC.out HL.out.2 (qE ⟨#[71, 69, 84]⟩ xp ⟨#[]⟩) none 0 none 0 (rq0_ok w5 _ (show (⟨#[71, 69, 84]⟩ : ByteArray).size ≤ 30000 by decide) (show xp.size ≤ 30000 by omega) (show (⟨#[]⟩ : ByteArray).size ≤ 30000 by decide) rfl rfl)).mono ?_
        rintro e w6 ⟨v1, rfl, hv, hs6⟩
        rw [serve_ent HSC.out HX.out rfl (Or.inl rfl) rfl] at hv
        obtain ⟨A1, c1, A2, nb, c2, A3, np, c3, rfl, hnb, hnp, hv⟩ := heads_rc hv
        have hbR6 := H5.out.2.2.2.sm hs6 (fun h => h)
        have u0 := hbR6.at 0 (v := .string ⟨#[71, 69, 84]⟩) rfl
        have u1 := hbR6.at 1 (v := .int .i64 1) rfl
        have u2 := hbR6.at 2 (v := .string ⟨#[]⟩) rfl
        have u3 := hbR6.at 3 (v := .string xp) rfl
        have u4 := hbR6.at 4 (v := .string ⟨#[]⟩) rfl
        have u5 := hbR6.at 5 (v := .int .i64 0) rfl
        have u6 := hbR6.at 6 (v := .slice none 0 0) rfl
        have u7 := hbR6.at 7 (v := .slice none 0 0) rfl
        have u8 := hbR6.at 8 (v := .bool false) rfl
        have u9 := hbR6.at 9 (v := .bool false) rfl
        have uf := hbR6.fz 0
        have ul := hbR6.lt
        have hs36 := H5.out.2.1.trans hs6 (fun _ _ h => h)
        obtain ⟨w7, hw7⟩ : ∃ w7, (w6.setCell ⟨b9 + 1, 0, none⟩ (.string ⟨#[72, 69, 65, 68]⟩)).alloc (.cells #[.int .i64 200, .slice A1 1 c1, .slice A2 nb c2, .slice A3 np c3] 52) = w7 := ⟨_, rfl⟩
        have hs67 : Sm (fun b => b = b9 + 1) w6 w7 := by rw [← hw7]; exact ((Sm.refl _ _).set1 0 _).alloc _
        have hs37 : Sm No w3 w7 := hs36.fresh hs67 (fun b e => by have := HB9.out; omega)
        have hbA : Bk w7 w6.heap.size 52 #[.int .i64 200, .slice A1 1 c1, .slice A2 nb c2, .slice A3 np c3] := by rw [← hw7]; exact Bk.newAt _ _ _ (by simp)
        have hbE7 := (H5.out.2.2.1.sm hs6 (fun h => h)).sm hs67 (fun e => by omega)
        have hv7 := hv.sm hs67 (fun b e => by have := H5.out.2.2.2.lt; omega)
        have H7 := Lib.hid (And.intro (HB.out.trans hs37 (fun _ _ h => h)) (And.intro hs37 (And.intro hbE7 (And.intro hbA hv7))))
        have HW7 := Lib.hid hw7
        clear hs6 hv hbR6 hs36 hw7 hs67 hs37 hbA hbE7 hv7
        go_wp2_with fail
        rw [HW7.out]
        refine (serve_own HG.out H7.out.1 (H3.out.no H7.out.2.1) HSC.out HL.out.2 (qE ⟨#[72, 69, 65, 68]⟩ xp ⟨#[]⟩) none 0 none 0 (rq0_ok w7 _ (show (⟨#[72, 69, 65, 68]⟩ : ByteArray).size ≤ 30000 by decide) (show xp.size ≤ 30000 by omega) (show (⟨#[]⟩ : ByteArray).size ≤ 30000 by decide) rfl rfl)).mono ?_
        rintro e w8 ⟨v2, rfl, hv, hs8⟩
        rw [serve_ent HSC.out HX.out rfl (Or.inr rfl) rfl] at hv
        obtain ⟨B1, d1, B2, mb, d2, B3, mp, d3, rfl, hmb, hmp, hv⟩ := heads_rc hv
        obtain rfl : nb = mb := hnb.symm.trans hmb
        obtain rfl : np = mp := hnp.symm.trans hmp
        obtain ⟨w9, hw9⟩ : ∃ w9, w8.alloc (.cells #[.int .i64 200, .slice B1 1 d1, .slice B2 nb d2, .slice B3 np d3] 52) = w9 := ⟨_, rfl⟩
        have hs89 : Sm No w8 w9 := by rw [← hw9]; exact (Sm.refl No w8).alloc _
        have hbB : Bk w9 w8.heap.size 52 #[.int .i64 200, .slice B1 1 d1, .slice B2 nb d2, .slice B3 np d3] := by rw [← hw9]; exact Bk.new w8 _ _
        have hs79 := hs8.trans hs89 (fun _ _ h => h)
        have hbE9 := H7.out.2.2.1.sm hs79 (fun h => h)
        have e0 := H7.out.2.2.1.sm hs8 (fun h => h)
        have x0 := e0.at 0 (v := .string xp) rfl
        have xl := e0.lt
        have H9 := Lib.hid (And.intro (H7.out.1.trans hs79 (fun _ _ h => h)) (And.intro (H7.out.2.1.trans hs79 (fun _ _ h => h)) (And.intro hbE9 (And.intro (H7.out.2.2.2.1.sm hs79 (fun h => h)) (And.intro hbB (And.intro (H7.out.2.2.2.2.rc.no hs79) (hv.rc.no hs89)))))))
        have HW9 := Lib.hid hw9
        have hps := path_slash HSC.out (List.mem_of_getElem? HX.out)
        dsimp only at hps
        obtain ⟨rp, hrp⟩ := hps
        have hp1 : 1 ≤ xp.size := by rw [← txt_len, hrp]; simp
        have hqr : txt xp = 47 :: txt (xp.extract 1 xp.size) := by rw [txt_size_drop, hrp]; rfl
        have HQR := Lib.hid hqr
        have hqz : (xp.extract 1 xp.size).size ≤ 5000 := by rw [ByteArray.size_extract]; omega
        have i4 : (1 : Int) ≤ (xp.size : Int) := by omega
        clear hv hs8 hs89 hbB hs79 hbE9 e0 hw9 u0 u1 u2 u3 u4 u5 u6 u7 u8 u9 uf ul hrp hqr
        go_wp2_with fail
        rw [HW9.out]
        refine (serve_own HG.out H9.out.1 (H3.out.no H9.out.2.1) HSC.out HL.out.2 (qE ⟨#[71, 69, 84]⟩ ⟨#[47, 107, 101, 121]⟩ (xp.extract 1 xp.size)) none 0 none 0 (rq0_ok w9 _ (show (⟨#[71, 69, 84]⟩ : ByteArray).size ≤ 30000 by decide) (show (⟨#[47, 107, 101, 121]⟩ : ByteArray).size ≤ 30000 by decide) (show (xp.extract 1 xp.size).size ≤ 30000 by omega) rfl rfl)).mono ?_
        rintro e w10 ⟨v3, rfl, hv, hs10⟩
        rw [serve_key HSC.out (List.mem_of_getElem? HX.out) rfl rfl rfl HQR.out] at hv
        obtain ⟨C1, f1, C2, nc, f2, C3, f3, rfl, hnc, hv⟩ := heads_rk hv
        obtain rfl : nb = nc := hnb.symm.trans hnc
        obtain ⟨w11, hw11⟩ : ∃ w11, w10.alloc (.cells #[.int .i64 200, .slice C1 1 f1, .slice C2 nb f2, .slice C3 0 f3] 52) = w11 := ⟨_, rfl⟩
        have hs1011 : Sm No w10 w11 := by rw [← hw11]; exact (Sm.refl No w10).alloc _
        have hbC : Bk w11 w10.heap.size 52 #[.int .i64 200, .slice C1 1 f1, .slice C2 nb f2, .slice C3 0 f3] := by rw [← hw11]; exact Bk.new w10 _ _
        have hs911 := hs10.trans hs1011 (fun _ _ h => h)
        have ha10 := H9.out.2.2.2.1.sm hs10 (fun h => h)
        have hb10 := H9.out.2.2.2.2.1.sm hs10 (fun h => h)
        have r0 := ha10.at 0 (v := .int .i64 200) rfl
        have r1 := ha10.at 1 (v := .slice A1 1 c1) rfl
        have r2 := ha10.at 2 (v := .slice A2 nb c2) rfl
        have r3 := ha10.at 3 (v := .slice A3 np c3) rfl
        have rl := ha10.lt
        have y0 := hb10.at 0 (v := .int .i64 200) rfl
        have y1 := hb10.at 1 (v := .slice B1 1 d1) rfl
        have y2 := hb10.at 2 (v := .slice B2 nb d2) rfl
        have y3 := hb10.at 3 (v := .slice B3 np d3) rfl
        have yl := hb10.lt
        have H11 := Lib.hid (And.intro (H9.out.1.trans hs911 (fun _ _ h => h)) (And.intro (H9.out.2.2.1.sm hs911 (fun h => h)) (And.intro (H9.out.2.2.2.1.sm hs911 (fun h => h)) (And.intro hbC (And.intro (H9.out.2.2.2.2.2.1.no hs911) (And.intro (H9.out.2.2.2.2.2.2.no hs911) (hv.rc.no hs1011)))))))
        have HW11 := Lib.hid hw11
        clear hv hs10 hs1011 hbC hs911 ha10 hb10 hw11 x0 xl
        go_wp2_with fail
        rw [HW11.out]
        clear r0 r1 r2 r3 rl y0 y1 y2 y3 yl
        refine (response20_any w11 _ _ _ H11.out.2.2.2.2.1 H11.out.2.2.2.2.2.1 ⟨(show 1 ≤ 1000000 by decide), (show (txt xd).length ≤ 1000000 by rw [txt_len]; omega), entA_parts ⟨xp, xt, xd⟩ (show xd.size ≤ 5000 by omega)⟩).mono ?_
        rintro e w12 ⟨rfl, hs12⟩
        have ha12 := H11.out.2.2.1.sm hs12 (fun h => h)
        have he12 := H11.out.2.1.sm hs12 (fun h => h)
        have r0 := ha12.at 0 (v := .int .i64 200) rfl
        have r2 := ha12.at 2 (v := .slice A2 nb c2) rfl
        have rl := ha12.lt
        have e2 := he12.at 2 (v := .string xd) rfl
        have el := he12.lt
        have H12 := Lib.hid (And.intro (H11.out.1.trans hs12 (fun _ _ h => h)) (And.intro he12 (And.intro (H11.out.2.2.2.1.sm hs12 (fun h => h)) (And.intro (H11.out.2.2.2.2.1.no hs12) (H11.out.2.2.2.2.2.2.no hs12)))))
        clear hs12 ha12 he12
        obtain ⟨cB, w20, hcv, hOB, hsB⟩ := bytes_run w12 xd (show xd.size ≤ maxLen by unfold maxLen; omega)
        have hc12 := H12.out.2.2.1.sm hsB (fun h => h)
        have he12 := H12.out.2.1.sm hsB (fun h => h)
        have HOB := Lib.hid (And.intro hOB hsB)
        clear hOB hsB
        go_wp2_with fail
        clear hcv r0 r2 rl e2 el
        have hrA := (rsp_body H12.out.2.2.2.1).no HOB.out.2
        refine (same20_n w20 A2 (some ⟨w12.heap.size, 0, none⟩) c2 cB (txt xd) hnb (txt_len xd) hrA (ownB_row HOB.out.1) (by rw [txt_len]; omega)).mono ?_
        rintro e w14 ⟨rfl, hs14⟩
        have hc14 := hc12.sm hs14 (fun h => h)
        have he14 := he12.sm hs14 (fun h => h)
        have r0 := hc14.at 0 (v := .int .i64 200) rfl
        have r2 := hc14.at 2 (v := .slice C2 nb f2) rfl
        have rl := hc14.lt
        have e2 := he14.at 2 (v := .string xd) rfl
        have el := he14.lt
        have hs1214 := HOB.out.2.trans hs14 (fun _ _ h => h)
        have H14 := Lib.hid (And.intro (H12.out.1.trans hs1214 (fun _ _ h => h)) ((rsp_body H12.out.2.2.2.2).no hs1214))
        clear hs14 hc14 he14 hs1214 hc12 he12 hrA
        obtain ⟨cC, w21, hcv, hOB, hsB⟩ := bytes_run w14 xd (show xd.size ≤ maxLen by unfold maxLen; omega)
        have HOB2 := Lib.hid (And.intro hOB hsB)
        clear hOB hsB
        go_wp2_with fail
        clear hcv r0 r2 rl e2 el
        refine (same20_n w21 C2 (some ⟨w14.heap.size, 0, none⟩) f2 cC (txt xd) hnb (txt_len xd) (H14.out.2.no HOB2.out.2) (ownB_row HOB2.out.1) (by rw [txt_len]; omega)).mono ?_
        rintro e w15 ⟨rfl, hs15⟩
        have HB := Lib.hid ((H14.out.1.trans HOB2.out.2 (fun _ _ h => h)).trans hs15 (fun _ _ h => h))
        clear hs15
        go_wp2_with fail
        refine (known20_any _ (HG.out.no HB.out)).mono ?_
        rintro e w9 ⟨rfl, hs9⟩
        have H9 := Lib.hid (HB.out.trans hs9 (fun _ _ h => h))
        clear hs9
        go_wp2_with fail
        go_ret
        exact ⟨rfl, H9.out⟩
    · obtain ⟨rfl, hs2⟩ := (hN.resolve_left (fun h => hc0 h.1)).2
      have H2 := Lib.hid (H1.out.1.trans hs2 (fun _ _ h => h))
      clear hN hs2 hsc
      go_wp2_with fail
      refine (HX.out w2 (HT.out.1.no H2.out)).mono ?_
      rintro e w3 hN
      obtain ⟨rfl, hs3⟩ := (hN.resolve_left (fun h => hc0 h.1)).2
      have HB := Lib.hid (H2.out.trans hs3 (fun _ _ h => h))
      clear hN hs3 HX
      go_wp2_with fail
      refine (known20_any _ (HG.out.no HB.out)).mono ?_
      rintro e w9 ⟨rfl, hs9⟩
      have H9 := Lib.hid (HB.out.trans hs9 (fun _ _ h => h))
      clear hs9
      go_wp2_with fail
      go_ret
      exact ⟨rfl, H9.out⟩
end Go.Proofs.YtiglfbimijnpcaaGreatDoor

