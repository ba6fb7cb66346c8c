/- The law SiteEcho: its walk. -/
import Derived.Test.YtiglfbimijnpcaaGreatDoorQSiteK
import Derived.Test.YtiglfbimijnpcaaGreatDoorQSiteN
namespace Go.Proofs.YtiglfbimijnpcaaGreatDoor
open Go.RowKit Go.Proofs

theorem rqe_ok {w : World} {m : ByteArray} {FA : Option Addr} {FC : Nat} {fs : List Fld} {body : List UInt8} {A : Option Addr} {c b7 : Nat} (hm : m.size ≤ 30000) (hf : FRow w FA fs) (hf2 : (∀ a, FA = some a → a.block ≠ b7) ∧ ((∀ x ∈ fs, x.1.size ≤ 30000 ∧ x.2.size ≤ 30000) ∧ fs.length ≤ 30000)) (hn : FA = none → fs.length = 0 ∧ FC = 0) (hA : RowC w A (byteV body)) (hn2 : A = none → body.length = 0 ∧ c = 0) (hb : body.length ≤ 5000) :
    RqOk w (qP m fs body) FA FC A c :=
  ⟨hf, hn, hA, hn2, hm, (show (⟨#[47, 101, 99, 104, 111]⟩ : ByteArray).size ≤ 30000 by decide), (show (⟨#[]⟩ : ByteArray).size ≤ 30000 by decide), hf2.2.1, hf2.2.2, (show body.length ≤ 30000 by omega)⟩
/-- An answer that lies apart from a block. -/
theorem echo_rc {w : World} {B : Nat} {v : Value} {fs : List Fld} {body : List UInt8} {want : ByteArray} (ht : typeL fs = want) (h : RspV w B v (serveL [] (qP ⟨#[80, 79, 83, 84]⟩ fs body))) :
    ∃ A1 c1 A2 nb c2 A3 c3, v = .agg #[.int .i64 200, .slice A1 1 c1, .slice A2 nb c2, .slice A3 0 c3] ∧ RspV w B (.agg #[.int .i64 200, .slice A1 1 c1, .slice A2 nb c2, .slice A3 0 c3]) (okL want body) := by
  rw [echo_a, ht] at h
  obtain ⟨A1, c1, A2, c2, A3, c3, rfl, _⟩ := h.rc
  exact ⟨A1, c1, A2, _, c2, A3, c3, rfl, h⟩
theorem echo_rd {w : World} {v : Value} {fs : List Fld} {body : List UInt8} (h : RspC w v (serveL [] (qP ⟨#[71, 69, 84]⟩ fs body))) :
    ∃ A1 c1 A2 nb c2 A3 c3, v = .agg #[.int .i64 405, .slice A1 2 c1, .slice A2 nb c2, .slice A3 0 c3] ∧ FRow w A1 [ctOf sPlain, (txtB sAllow, txtB POST)] := by
  obtain ⟨t, e⟩ := echo_b fs body
  rw [e] at h
  obtain ⟨A1, c1, A2, c2, A3, c3, rfl, h1, _⟩ := h
  exact ⟨A1, c1, A2, _, c2, A3, c3, rfl, h1⟩
theorem echo_built {w : World} {g : Nat} (want : ByteArray) (body : List UInt8) (A : Option Addr) (c : Nat) (hA : RowC w A (byteV body)) (h : Bk w g 65 #[.string ⟨#[67, 111, 110, 116, 101, 110, 116, 45, 84, 121, 112, 101]⟩, .string want]) :
    RspC w (.agg #[.int .i64 200, .slice (some ⟨g, 0, none⟩) 1 1, .slice A body.length c, .slice none 0 0]) (okL want body) :=
  ⟨some ⟨g, 0, none⟩, 1, A, c, none, 0, rfl, fRow_one h, hA, RowC.nil _ _⟩
set_option maxRecDepth 100000 in
set_option maxHeartbeats 16000000 in
theorem echo20_any (w : World) (hg : G1 w) (A : Option Addr) (body : List UInt8) (c : Nat) (kind : ByteArray) (hA : ArgB w A body c) (hk : kind.size ≤ 140737488351232) :
    Calls Tryz.prog 6 #[.slice A body.length c, .string kind] w fun e w' => e = .returned (.bool true) ∧ Sm No w w' := by
  have HA := Lib.hid hA
  have HG := Lib.hid hg
  have hal : (body.length : Int) ≤ 140737488351232 := by have := hA.2.1; have := hA.2.2.1; omega
  clear hA hg
  go_enter Tryz.func6, Tryz.ntmps6
  by_cases hbl : body.length ≤ 5000
  · by_cases hkl : kind.size ≤ 200
    · have i1 : ¬ (5000 : Int) < (body.length : Int) := by omega
      have i2 : ¬ (200 : Int) < (kind.size : Int) := by omega
      go_wp2_with fail
      refine (snew_any w HG.out.1 none 0 [] (RowC.nil _ _) (fun _ => ⟨rfl, rfl⟩) (by decide) (fun x hx => by cases hx)).mono ?_
      rintro e w2 hN
      obtain ⟨s, O, rfl, hS, hs2, _⟩ := (hN.resolve_right (fun h => h.1 site0)).2
      obtain ⟨r, hr, hsl⟩ := hS.router
      have H2 := Lib.hid (And.intro hs2 hS)
      have hwb : w.heap.size ≤ w2.heap.size := hs2.size
      clear hN hS hs2
      go_wp2_with fail
      obtain ⟨b7, hb7⟩ : ∃ b7, w2.heap.size = b7 := ⟨_, rfl⟩
      rw [hb7] at hwb ⊢
      have HB7 := Lib.hid hb7
      obtain ⟨w4, hw4⟩ : ∃ w4, (w2.alloc (.cells #[.string ⟨#[80, 79, 83, 84]⟩, .int .i64 1, .string ⟨#[]⟩, .string ⟨#[47, 101, 99, 104, 111]⟩, .string ⟨#[]⟩, .int .i64 0, .slice none 0 0, .slice A body.length c, .bool false, .bool false] 29)).alloc (.cells #[.string ⟨#[99, 111, 110, 116, 101, 110, 116, 45, 84, 89, 80, 69]⟩, .string kind] 65) = w4 := ⟨_, rfl⟩
      have hs4 : Sm No w2 w4 := by rw [← hw4]; exact ((Sm.refl No w2).alloc _).alloc _
      have hq4 : Bk w4 b7 29 #[.string ⟨#[80, 79, 83, 84]⟩, .int .i64 1, .string ⟨#[]⟩, .string ⟨#[47, 101, 99, 104, 111]⟩, .string ⟨#[]⟩, .int .i64 0, .slice none 0 0, .slice A body.length c, .bool false, .bool false] := by rw [← hw4, ← hb7]; exact (Bk.new w2 _ _).alloc _
      have hf4 : Bk w4 (b7 + 1) 65 #[.string ⟨#[99, 111, 110, 116, 101, 110, 116, 45, 84, 89, 80, 69]⟩, .string kind] := by rw [← hw4]; exact Bk.newAt _ _ _ (by rw [← hb7]; simp)
      rw [hw4]
      have H4 := Lib.hid (And.intro hs4 (And.intro hq4 hf4))
      clear hs4 hq4 hf4 hw4 hb7 hr hsl
      obtain ⟨fI, hfI⟩ : ∃ fI, isF cTY.data.toList kind.data.toList = fI := ⟨_, rfl⟩
      have hIs := rIs_any cTY kind (by decide) (by omega) w4
      rw [hfI] at hIs
      unfold cTY at hIs
      refine hIs.mono ?_
      clear hIs
      rintro e w5 ⟨rfl, hs5⟩
      have hq5 := H4.out.2.1.sm hs5 (fun h => h)
      have hf5 := H4.out.2.2.sm hs5 (fun h => h)
      have q0 := hq5.at 0 (v := .string ⟨#[80, 79, 83, 84]⟩) rfl
      have q1 := hq5.at 1 (v := .int .i64 1) rfl
      have q2 := hq5.at 2 (v := .string ⟨#[]⟩) rfl
      have q3 := hq5.at 3 (v := .string ⟨#[47, 101, 99, 104, 111]⟩) rfl
      have q4 := hq5.at 4 (v := .string ⟨#[]⟩) rfl
      have q5 := hq5.at 5 (v := .int .i64 0) rfl
      have q6 := hq5.at 6 (v := .slice none 0 0) rfl
      have q7 := hq5.at 7 (v := .slice A body.length c) rfl
      have q8 := hq5.at 8 (v := .bool false) rfl
      have q9 := hq5.at 9 (v := .bool false) rfl
      have qf := hq5.fz 6
      have ql := hq5.lt
      have g0 := hf5.at 0 (v := .string ⟨#[99, 111, 110, 116, 101, 110, 116, 45, 84, 89, 80, 69]⟩) rfl
      have g1 := hf5.at 1 (v := .string kind) rfl
      have gl := hf5.lt
      have hs25 := H4.out.1.trans hs5 (fun _ _ h => h)
      have H5 := Lib.hid (And.intro hs25 hq5)
      have HFI := Lib.hid hfI
      clear hs5 hq5 hf5 hs25 hfI
      cases fI with
      | true =>
        by_cases hkz : kind.size = 0
        · have k0 : kind.toList = [] := by rw [ByteArray.toList_eq]; exact List.eq_nil_of_length_eq_zero (by simpa using hkz)
          have k1 : kind.toList.isEmpty = true := by rw [k0]; rfl
          have hty : typeL [(cTY, kind)] = txtB sOctet := by rw [typeL_one HFI.out, if_pos hkz]
          have HTY := Lib.hid hty
          clear hty hkz
          have HCW := Lib.hid (And.intro (And.intro q0 (And.intro q1 q2)) (And.intro q3 (And.intro q4 q5)))
          go_wp2_with fail
          clear HCW q0 q1 q2 q3 q4 q5 q6 q7 q8 q9 qf ql g0 g1 gl
          have hsS : Sm (fun b => b = b7) w5 ((w5.setCell ⟨b7, 6, none⟩ (.slice (some ⟨w5.heap.size, 0, none⟩) 1 1)).alloc (.cells #[.string ⟨#[99, 111, 110, 116, 101, 110, 116, 45, 84, 89, 80, 69]⟩, .string kind] 65)) := ((Sm.refl _ _).set1 6 _).alloc _
          obtain ⟨W, hW⟩ : ∃ W, (w5.setCell ⟨b7, 6, none⟩ (.slice (some ⟨w5.heap.size, 0, none⟩) 1 1)).alloc (.cells #[.string ⟨#[99, 111, 110, 116, 101, 110, 116, 45, 84, 89, 80, 69]⟩, .string kind] 65) = W := ⟨_, rfl⟩
          obtain ⟨gF, hgF⟩ : ∃ gF, w5.heap.size = gF := ⟨_, rfl⟩
          have hbW : Bk W b7 29 #[.string ⟨#[80, 79, 83, 84]⟩, .int .i64 1, .string ⟨#[]⟩, .string ⟨#[47, 101, 99, 104, 111]⟩, .string ⟨#[]⟩, .int .i64 0, .slice (some ⟨gF, 0, none⟩) 1 1, .slice A body.length c, .bool false, .bool false] := by rw [← hW, hgF]; exact (H5.out.2.set 6 _).alloc _
          rw [hW] at hsS
          have hbF : Bk W gF 65 #[.string ⟨#[99, 111, 110, 116, 101, 110, 116, 45, 84, 89, 80, 69]⟩, .string kind] := by rw [← hW]; exact Bk.newAt _ _ _ (by rw [← hgF]; simp)
          have hs2W : Sm No w2 W := H5.out.1.fresh hsS (fun b e => by have := HB7.out; omega)
          rw [hW, hgF]
          have hne : gF ≠ b7 := fun e => by have := H5.out.2.lt; omega
          have HW := Lib.hid (And.intro (H2.out.1.trans hs2W (fun _ _ h => h)) (And.intro (H2.out.2.no hs2W) hbW))
          have HSi := Lib.hid (And.intro hs2W H2.out.2)
          have HF := Lib.hid (show FRow W (some ⟨gF, 0, none⟩) [(cTY, kind)] ∧ ((some (⟨gF, 0, none⟩ : Addr) = none → [(cTY, kind)].length = 0 ∧ 1 = 0) ∧ ((∀ a, some (⟨gF, 0, none⟩ : Addr) = some a → a.block ≠ b7) ∧ ((∀ x ∈ [(cTY, kind)], x.1.size ≤ 30000 ∧ x.2.size ≤ 30000) ∧ [(cTY, kind)].length ≤ 30000))) from
            ⟨fRow_one hbF, (fun e => nomatch e), (fun a e => (by injection e with e; subst e; exact hne)), (fun x hx => (by
              have : x = (cTY, kind) := by simpa using hx
              subst this
              exact ⟨(show cTY.size ≤ 30000 by decide), (show kind.size ≤ 30000 by omega)⟩)), (show 1 ≤ 30000 by decide)⟩)
          have h2b : w2.heap.size ≤ b7 := Nat.le_of_eq HB7.out
          clear hW hgF hbW hsS hbF hs2W hne
          refine (serve_own HG.out HW.out.1 HW.out.2.1 site0 (fun x hx => by cases hx) (qP ⟨#[80, 79, 83, 84]⟩ [(cTY, kind)] body) (some ⟨gF, 0, none⟩) 1 A c (rqe_ok (by decide) HF.out.1 HF.out.2.2 HF.out.2.1 (HA.out.1.no HW.out.1) (fun e => ⟨by have := HA.out.2.1; have := HA.out.2.2.2 e; omega, HA.out.2.2.2 e⟩) hbl)).mono ?_
          rintro e w8 ⟨v1, rfl, hv, hs8⟩
          obtain ⟨A1, c1, A2, nb, c2, A3, c3, rfl, hw⟩ := echo_rc HTY.out hv
          have hb8 := HW.out.2.2.sm hs8 (fun h => h)
          have u0 := hb8.at 0 (v := .string ⟨#[80, 79, 83, 84]⟩) rfl
          have u1 := hb8.at 1 (v := .int .i64 1) rfl
          have u2 := hb8.at 2 (v := .string ⟨#[]⟩) rfl
          have u3 := hb8.at 3 (v := .string ⟨#[47, 101, 99, 104, 111]⟩) rfl
          have u4 := hb8.at 4 (v := .string ⟨#[]⟩) rfl
          have u5 := hb8.at 5 (v := .int .i64 0) rfl
          have u6 := hb8.at 6 (v := .slice (some ⟨gF, 0, none⟩) 1 1) rfl
          have u7 := hb8.at 7 (v := .slice A body.length c) rfl
          have u8 := hb8.at 8 (v := .bool false) rfl
          have u9 := hb8.at 9 (v := .bool false) rfl
          have uf := hb8.fz 0
          have ul := hb8.lt
          obtain ⟨w10, hw10⟩ : ∃ w10, (w8.setCell ⟨b7, 0, none⟩ (.string ⟨#[71, 69, 84]⟩)).alloc (.cells #[.int .i64 200, .slice A1 1 c1, .slice A2 nb c2, .slice A3 0 c3] 52) = w10 := ⟨_, rfl⟩
          have hs8_10 : Sm (fun b => b = b7) w8 w10 := by rw [← hw10]; exact ((Sm.refl _ _).set1 0 _).alloc _
          have hb10 : Bk w10 b7 29 #[.string ⟨#[71, 69, 84]⟩, .int .i64 1, .string ⟨#[]⟩, .string ⟨#[47, 101, 99, 104, 111]⟩, .string ⟨#[]⟩, .int .i64 0, .slice (some ⟨gF, 0, none⟩) 1 1, .slice A body.length c, .bool false, .bool false] := by rw [← hw10]; exact (hb8.set 0 _).alloc _
          have ha10 : Bk w10 w8.heap.size 52 #[.int .i64 200, .slice A1 1 c1, .slice A2 nb c2, .slice A3 0 c3] := by rw [← hw10]; exact Bk.newAt _ _ _ (by simp)
          have hsW : Sm (fun b => b = b7) W w10 := (hs8.any _).trans hs8_10 (fun _ _ h => h)
          have hsw : Sm No w w10 := HW.out.1.fresh hsW (fun b e => by omega)
          have hS10 := HSi.out.2.no (HSi.out.1.fresh hsW (fun b e => by omega))
          have hf10 := HF.out.1.sm hsW (fun a e h => HF.out.2.2.1 a e h)
          have hv10 := hw.sm hs8_10 (fun b e => by have := HW.out.2.2.lt; omega)
          have H10 := Lib.hid (And.intro hsw (And.intro hS10 (And.intro hb10 (And.intro ha10 (And.intro hf10 hv10)))))
          have HW10 := Lib.hid hw10
          clear hs8 hv hw hb8 hw10 hb10 ha10 hs8_10 hsW hsw hS10 hf10 hv10
          go_wp2_with fail
          rw [HW10.out]
          refine (serve_own HG.out H10.out.1 H10.out.2.1 site0 (fun x hx => by cases hx) (qP ⟨#[71, 69, 84]⟩ [(cTY, kind)] body) (some ⟨gF, 0, none⟩) 1 A c (rqe_ok (by decide) H10.out.2.2.2.2.1 HF.out.2.2 HF.out.2.1 (HA.out.1.no H10.out.1) (fun e => ⟨by have := HA.out.2.1; have := HA.out.2.2.2 e; omega, HA.out.2.2.2 e⟩) hbl)).mono ?_
          rintro e w11 ⟨v2, rfl, hv2, hs11⟩
          obtain ⟨B1, d1, B2, mb, d2, B3, d3, rfl, hw2⟩ := echo_rd hv2.rc
          have ha11 := H10.out.2.2.2.1.sm hs11 (fun h => h)
          have r0 := ha11.at 0 (v := .int .i64 200) rfl
          have r1 := ha11.at 1 (v := .slice A1 1 c1) rfl
          have r2 := ha11.at 2 (v := .slice A2 nb c2) rfl
          have r3 := ha11.at 3 (v := .slice A3 0 c3) rfl
          have rl := ha11.lt
          obtain ⟨w12, hw12⟩ : ∃ w12, w11.alloc (.cells #[.int .i64 405, .slice B1 2 d1, .slice B2 mb d2, .slice B3 0 d3] 52) = w12 := ⟨_, rfl⟩
          have hb12 : Bk w12 w11.heap.size 52 #[.int .i64 405, .slice B1 2 d1, .slice B2 mb d2, .slice B3 0 d3] := by rw [← hw12]; exact Bk.new w11 _ _
          have hs12 : Sm No w11 w12 := by rw [← hw12]; exact (Sm.refl No w11).alloc _
          have hz12 : w11.heap.size + 1 = w12.heap.size := by rw [← hw12]; simp
          have hs10 := hs11.trans hs12 (fun _ _ h => h)
          have H12 := Lib.hid (And.intro (H10.out.1.trans hs10 (fun _ _ h => h)) (And.intro hb12 (And.intro (H10.out.2.2.2.2.2.no hs10) (hw2.no hs12))))
          have HW12 := Lib.hid (And.intro hw12 hz12)
          clear hv2 hw2 hs11 ha11 hw12 hb12 hs12 hz12 hs10 u0 u1 u2 u3 u4 u5 u6 u7 u8 u9 uf ul
          go_wp2_with fail
          rw [HW12.out.1, HW12.out.2]
          clear r0 r1 r2 r3 rl
          refine (response20_any (w12.alloc (.cells #[.string ⟨#[67, 111, 110, 116, 101, 110, 116, 45, 84, 121, 112, 101]⟩, .string ⟨#[97, 112, 112, 108, 105, 99, 97, 116, 105, 111, 110, 47, 111, 99, 116, 101, 116, 45, 115, 116, 114, 101, 97, 109]⟩] 65)) _ _ (okL ⟨#[97, 112, 112, 108, 105, 99, 97, 116, 105, 111, 110, 47, 111, 99, 116, 101, 116, 45, 115, 116, 114, 101, 97, 109]⟩ body) (H12.out.2.2.1.rc.no ((Sm.refl No w12).alloc _)) (echo_built ⟨#[97, 112, 112, 108, 105, 99, 97, 116, 105, 111, 110, 47, 111, 99, 116, 101, 116, 45, 115, 116, 114, 101, 97, 109]⟩ body A c ((HA.out.1.no H12.out.1).no ((Sm.refl No w12).alloc _)) (Bk.new w12 _ _)) ⟨by show 1 ≤ 1000000; decide, by show body.length ≤ 1000000; omega, by show 0 ≤ 1000000; decide⟩).mono ?_
          rintro e w13 ⟨rfl, hs13⟩
          have hs13 := ((Sm.refl No w12).alloc (.cells #[.string ⟨#[67, 111, 110, 116, 101, 110, 116, 45, 84, 121, 112, 101]⟩, .string ⟨#[97, 112, 112, 108, 105, 99, 97, 116, 105, 111, 110, 47, 111, 99, 116, 101, 116, 45, 115, 116, 114, 101, 97, 109]⟩] 65)).trans hs13 (fun _ _ h => h)
          have hb13 := H12.out.2.1.sm hs13 (fun h => h)
          have r0 := hb13.at 0 (v := .int .i64 405) rfl
          have r1 := hb13.at 1 (v := .slice B1 2 d1) rfl
          have rl := hb13.lt
          have H13 := Lib.hid (And.intro (H12.out.1.trans hs13 (fun _ _ h => h)) (H12.out.2.2.2.no hs13))
          clear hs13 hb13
          go_wp2_with fail
          have hrow : FRow (w13.alloc (.cells #[.string ⟨#[67, 111, 110, 116, 101, 110, 116, 45, 84, 121, 112, 101]⟩, .string ⟨#[116, 101, 120, 116, 47, 112, 108, 97, 105, 110]⟩, .string ⟨#[65, 108, 108, 111, 119]⟩, .string ⟨#[80, 79, 83, 84]⟩] 65)) (some ⟨w13.heap.size, 0, none⟩) [ctOf sPlain, (txtB sAllow, txtB POST)] :=
            RowC.frow (rowC_bk (cs := #[.string ⟨#[67, 111, 110, 116, 101, 110, 116, 45, 84, 121, 112, 101]⟩, .string ⟨#[116, 101, 120, 116, 47, 112, 108, 97, 105, 110]⟩, .string ⟨#[65, 108, 108, 111, 119]⟩, .string ⟨#[80, 79, 83, 84]⟩]) (Bk.new w13 65 _))
          refine (fields20_any _ B1 (some ⟨w13.heap.size, 0, none⟩) d1 2 [ctOf sPlain, (txtB sAllow, txtB POST)] (H13.out.2.no ((Sm.refl No w13).alloc _)) hrow (by decide)).mono ?_
          clear hrow
          rintro e w14 ⟨rfl, hs14⟩
          have H14 := Lib.hid ((H13.out.1.alloc (.cells #[.string ⟨#[67, 111, 110, 116, 101, 110, 116, 45, 84, 121, 112, 101]⟩, .string ⟨#[116, 101, 120, 116, 47, 112, 108, 97, 105, 110]⟩, .string ⟨#[65, 108, 108, 111, 119]⟩, .string ⟨#[80, 79, 83, 84]⟩] 65)).trans hs14 (fun _ _ h => h))
          clear hs14 r0 r1 rl
          go_wp2_with fail
          refine (known20_any w14 (HG.out.no H14.out)).mono ?_
          rintro e w15 ⟨rfl, hs15⟩
          have H15 := Lib.hid (H14.out.trans hs15 (fun _ _ h => h))
          clear hs15
          go_wp2_with fail
          go_ret
          exact ⟨rfl, H15.out⟩
        · have k0 : ¬ kind.toList = [] := by
            rw [ByteArray.toList_eq]
            intro e
            exact hkz (by have : kind.data.toList.length = 0 := by rw [e]; rfl
                          simpa using this)
          have k1 : kind.toList.isEmpty = false := by
            cases h : kind.toList with
            | nil => exact absurd h k0
            | cons => rfl
          have hty : typeL [(cTY, kind)] = kind := by rw [typeL_one HFI.out, if_neg hkz]
          have HTY := Lib.hid hty
          clear hty hkz
          have HCW := Lib.hid (And.intro (And.intro q0 (And.intro q1 q2)) (And.intro q3 (And.intro q4 q5)))
          go_wp2_with fail
          clear HCW q0 q1 q2 q3 q4 q5 q6 q7 q8 q9 qf ql g0 g1 gl
          have hsS : Sm (fun b => b = b7) w5 ((w5.setCell ⟨b7, 6, none⟩ (.slice (some ⟨w5.heap.size, 0, none⟩) 1 1)).alloc (.cells #[.string ⟨#[99, 111, 110, 116, 101, 110, 116, 45, 84, 89, 80, 69]⟩, .string kind] 65)) := ((Sm.refl _ _).set1 6 _).alloc _
          obtain ⟨W, hW⟩ : ∃ W, (w5.setCell ⟨b7, 6, none⟩ (.slice (some ⟨w5.heap.size, 0, none⟩) 1 1)).alloc (.cells #[.string ⟨#[99, 111, 110, 116, 101, 110, 116, 45, 84, 89, 80, 69]⟩, .string kind] 65) = W := ⟨_, rfl⟩
          obtain ⟨gF, hgF⟩ : ∃ gF, w5.heap.size = gF := ⟨_, rfl⟩
          have hbW : Bk W b7 29 #[.string ⟨#[80, 79, 83, 84]⟩, .int .i64 1, .string ⟨#[]⟩, .string ⟨#[47, 101, 99, 104, 111]⟩, .string ⟨#[]⟩, .int .i64 0, .slice (some ⟨gF, 0, none⟩) 1 1, .slice A body.length c, .bool false, .bool false] := by rw [← hW, hgF]; exact (H5.out.2.set 6 _).alloc _
          rw [hW] at hsS
          have hbF : Bk W gF 65 #[.string ⟨#[99, 111, 110, 116, 101, 110, 116, 45, 84, 89, 80, 69]⟩, .string kind] := by rw [← hW]; exact Bk.newAt _ _ _ (by rw [← hgF]; simp)
          have hs2W : Sm No w2 W := H5.out.1.fresh hsS (fun b e => by have := HB7.out; omega)
          rw [hW, hgF]
          have hne : gF ≠ b7 := fun e => by have := H5.out.2.lt; omega
          have HW := Lib.hid (And.intro (H2.out.1.trans hs2W (fun _ _ h => h)) (And.intro (H2.out.2.no hs2W) hbW))
          have HSi := Lib.hid (And.intro hs2W H2.out.2)
          have HF := Lib.hid (show FRow W (some ⟨gF, 0, none⟩) [(cTY, kind)] ∧ ((some (⟨gF, 0, none⟩ : Addr) = none → [(cTY, kind)].length = 0 ∧ 1 = 0) ∧ ((∀ a, some (⟨gF, 0, none⟩ : Addr) = some a → a.block ≠ b7) ∧ ((∀ x ∈ [(cTY, kind)], x.1.size ≤ 30000 ∧ x.2.size ≤ 30000) ∧ [(cTY, kind)].length ≤ 30000))) from
            ⟨fRow_one hbF, (fun e => nomatch e), (fun a e => (by injection e with e; subst e; exact hne)), (fun x hx => (by
              have : x = (cTY, kind) := by simpa using hx
              subst this
              exact ⟨(show cTY.size ≤ 30000 by decide), (show kind.size ≤ 30000 by omega)⟩)), (show 1 ≤ 30000 by decide)⟩)
          have h2b : w2.heap.size ≤ b7 := Nat.le_of_eq HB7.out
          clear hW hgF hbW hsS hbF hs2W hne
          refine (serve_own HG.out HW.out.1 HW.out.2.1 site0 (fun x hx => by cases hx) (qP ⟨#[80, 79, 83, 84]⟩ [(cTY, kind)] body) (some ⟨gF, 0, none⟩) 1 A c (rqe_ok (by decide) HF.out.1 HF.out.2.2 HF.out.2.1 (HA.out.1.no HW.out.1) (fun e => ⟨by have := HA.out.2.1; have := HA.out.2.2.2 e; omega, HA.out.2.2.2 e⟩) hbl)).mono ?_
          rintro e w8 ⟨v1, rfl, hv, hs8⟩
          obtain ⟨A1, c1, A2, nb, c2, A3, c3, rfl, hw⟩ := echo_rc HTY.out hv
          have hb8 := HW.out.2.2.sm hs8 (fun h => h)
          have u0 := hb8.at 0 (v := .string ⟨#[80, 79, 83, 84]⟩) rfl
          have u1 := hb8.at 1 (v := .int .i64 1) rfl
          have u2 := hb8.at 2 (v := .string ⟨#[]⟩) rfl
          have u3 := hb8.at 3 (v := .string ⟨#[47, 101, 99, 104, 111]⟩) rfl
          have u4 := hb8.at 4 (v := .string ⟨#[]⟩) rfl
          have u5 := hb8.at 5 (v := .int .i64 0) rfl
          have u6 := hb8.at 6 (v := .slice (some ⟨gF, 0, none⟩) 1 1) rfl
          have u7 := hb8.at 7 (v := .slice A body.length c) rfl
          have u8 := hb8.at 8 (v := .bool false) rfl
          have u9 := hb8.at 9 (v := .bool false) rfl
          have uf := hb8.fz 0
          have ul := hb8.lt
          obtain ⟨w10, hw10⟩ : ∃ w10, (w8.setCell ⟨b7, 0, none⟩ (.string ⟨#[71, 69, 84]⟩)).alloc (.cells #[.int .i64 200, .slice A1 1 c1, .slice A2 nb c2, .slice A3 0 c3] 52) = w10 := ⟨_, rfl⟩
          have hs8_10 : Sm (fun b => b = b7) w8 w10 := by rw [← hw10]; exact ((Sm.refl _ _).set1 0 _).alloc _
          have hb10 : Bk w10 b7 29 #[.string ⟨#[71, 69, 84]⟩, .int .i64 1, .string ⟨#[]⟩, .string ⟨#[47, 101, 99, 104, 111]⟩, .string ⟨#[]⟩, .int .i64 0, .slice (some ⟨gF, 0, none⟩) 1 1, .slice A body.length c, .bool false, .bool false] := by rw [← hw10]; exact (hb8.set 0 _).alloc _
          have ha10 : Bk w10 w8.heap.size 52 #[.int .i64 200, .slice A1 1 c1, .slice A2 nb c2, .slice A3 0 c3] := by rw [← hw10]; exact Bk.newAt _ _ _ (by simp)
          have hsW : Sm (fun b => b = b7) W w10 := (hs8.any _).trans hs8_10 (fun _ _ h => h)
          have hsw : Sm No w w10 := HW.out.1.fresh hsW (fun b e => by omega)
          have hS10 := HSi.out.2.no (HSi.out.1.fresh hsW (fun b e => by omega))
          have hf10 := HF.out.1.sm hsW (fun a e h => HF.out.2.2.1 a e h)
          have hv10 := hw.sm hs8_10 (fun b e => by have := HW.out.2.2.lt; omega)
          have H10 := Lib.hid (And.intro hsw (And.intro hS10 (And.intro hb10 (And.intro ha10 (And.intro hf10 hv10)))))
          have HW10 := Lib.hid hw10
          clear hs8 hv hw hb8 hw10 hb10 ha10 hs8_10 hsW hsw hS10 hf10 hv10
          go_wp2_with fail
          rw [HW10.out]
          refine (serve_own HG.out H10.out.1 H10.out.2.1 site0 (fun x hx => by cases hx) (qP ⟨#[71, 69, 84]⟩ [(cTY, kind)] body) (some ⟨gF, 0, none⟩) 1 A c (rqe_ok (by decide) H10.out.2.2.2.2.1 HF.out.2.2 HF.out.2.1 (HA.out.1.no H10.out.1) (fun e => ⟨by have := HA.out.2.1; have := HA.out.2.2.2 e; omega, HA.out.2.2.2 e⟩) hbl)).mono ?_
          rintro e w11 ⟨v2, rfl, hv2, hs11⟩
          obtain ⟨B1, d1, B2, mb, d2, B3, d3, rfl, hw2⟩ := echo_rd hv2.rc
          have ha11 := H10.out.2.2.2.1.sm hs11 (fun h => h)
          have r0 := ha11.at 0 (v := .int .i64 200) rfl
          have r1 := ha11.at 1 (v := .slice A1 1 c1) rfl
          have r2 := ha11.at 2 (v := .slice A2 nb c2) rfl
          have r3 := ha11.at 3 (v := .slice A3 0 c3) rfl
          have rl := ha11.lt
          obtain ⟨w12, hw12⟩ : ∃ w12, w11.alloc (.cells #[.int .i64 405, .slice B1 2 d1, .slice B2 mb d2, .slice B3 0 d3] 52) = w12 := ⟨_, rfl⟩
          have hb12 : Bk w12 w11.heap.size 52 #[.int .i64 405, .slice B1 2 d1, .slice B2 mb d2, .slice B3 0 d3] := by rw [← hw12]; exact Bk.new w11 _ _
          have hs12 : Sm No w11 w12 := by rw [← hw12]; exact (Sm.refl No w11).alloc _
          have hz12 : w11.heap.size + 1 = w12.heap.size := by rw [← hw12]; simp
          have hs10 := hs11.trans hs12 (fun _ _ h => h)
          have H12 := Lib.hid (And.intro (H10.out.1.trans hs10 (fun _ _ h => h)) (And.intro hb12 (And.intro (H10.out.2.2.2.2.2.no hs10) (hw2.no hs12))))
          have HW12 := Lib.hid (And.intro hw12 hz12)
          clear hv2 hw2 hs11 ha11 hw12 hb12 hs12 hz12 hs10 u0 u1 u2 u3 u4 u5 u6 u7 u8 u9 uf ul
          go_wp2_with fail
          rw [HW12.out.1, HW12.out.2]
          clear r0 r1 r2 r3 rl
          refine (response20_any (w12.alloc (.cells #[.string ⟨#[67, 111, 110, 116, 101, 110, 116, 45, 84, 121, 112, 101]⟩, .string kind] 65)) _ _ (okL kind body) (H12.out.2.2.1.rc.no ((Sm.refl No w12).alloc _)) (echo_built kind body A c ((HA.out.1.no H12.out.1).no ((Sm.refl No w12).alloc _)) (Bk.new w12 _ _)) ⟨by show 1 ≤ 1000000; decide, by show body.length ≤ 1000000; omega, by show 0 ≤ 1000000; decide⟩).mono ?_
          rintro e w13 ⟨rfl, hs13⟩
          have hs13 := ((Sm.refl No w12).alloc (.cells #[.string ⟨#[67, 111, 110, 116, 101, 110, 116, 45, 84, 121, 112, 101]⟩, .string kind] 65)).trans hs13 (fun _ _ h => h)
          have hb13 := H12.out.2.1.sm hs13 (fun h => h)
          have r0 := hb13.at 0 (v := .int .i64 405) rfl
          have r1 := hb13.at 1 (v := .slice B1 2 d1) rfl
          have rl := hb13.lt
          have H13 := Lib.hid (And.intro (H12.out.1.trans hs13 (fun _ _ h => h)) (H12.out.2.2.2.no hs13))
          clear hs13 hb13
          go_wp2_with fail
          have hrow : FRow (w13.alloc (.cells #[.string ⟨#[67, 111, 110, 116, 101, 110, 116, 45, 84, 121, 112, 101]⟩, .string ⟨#[116, 101, 120, 116, 47, 112, 108, 97, 105, 110]⟩, .string ⟨#[65, 108, 108, 111, 119]⟩, .string ⟨#[80, 79, 83, 84]⟩] 65)) (some ⟨w13.heap.size, 0, none⟩) [ctOf sPlain, (txtB sAllow, txtB POST)] :=
            RowC.frow (rowC_bk (cs := #[.string ⟨#[67, 111, 110, 116, 101, 110, 116, 45, 84, 121, 112, 101]⟩, .string ⟨#[116, 101, 120, 116, 47, 112, 108, 97, 105, 110]⟩, .string ⟨#[65, 108, 108, 111, 119]⟩, .string ⟨#[80, 79, 83, 84]⟩]) (Bk.new w13 65 _))
          refine (fields20_any _ B1 (some ⟨w13.heap.size, 0, none⟩) d1 2 [ctOf sPlain, (txtB sAllow, txtB POST)] (H13.out.2.no ((Sm.refl No w13).alloc _)) hrow (by decide)).mono ?_
          clear hrow
          rintro e w14 ⟨rfl, hs14⟩
          have H14 := Lib.hid ((H13.out.1.alloc (.cells #[.string ⟨#[67, 111, 110, 116, 101, 110, 116, 45, 84, 121, 112, 101]⟩, .string ⟨#[116, 101, 120, 116, 47, 112, 108, 97, 105, 110]⟩, .string ⟨#[65, 108, 108, 111, 119]⟩, .string ⟨#[80, 79, 83, 84]⟩] 65)).trans hs14 (fun _ _ h => h))
          clear hs14 r0 r1 rl
          go_wp2_with fail
          refine (known20_any w14 (HG.out.no H14.out)).mono ?_
          rintro e w15 ⟨rfl, hs15⟩
          have H15 := Lib.hid (H14.out.trans hs15 (fun _ _ h => h))
          clear hs15
          go_wp2_with fail
          go_ret
          exact ⟨rfl, H15.out⟩
      | false =>
        have hty : typeL [] = txtB sOctet := typeL_nil
        have HTY := Lib.hid hty
        clear hty
        go_wp2_with fail
        clear q0 q1 q2 q3 q4 q5 q6 q7 q8 q9 qf ql g0 g1 gl
        have HW := Lib.hid (And.intro (H2.out.1.trans H5.out.1 (fun _ _ h => h)) (And.intro (H2.out.2.no H5.out.1) H5.out.2))
        have HSi := Lib.hid (And.intro H5.out.1 H2.out.2)
        obtain ⟨W, hW⟩ : ∃ W, w5 = W := ⟨_, rfl⟩
        subst hW
        have HF := Lib.hid (show FRow w5 none [] ∧ (((none : Option Addr) = none → ([] : List Fld).length = 0 ∧ 0 = 0) ∧ ((∀ a, (none : Option Addr) = some a → a.block ≠ b7) ∧ ((∀ x ∈ ([] : List Fld), x.1.size ≤ 30000 ∧ x.2.size ≤ 30000) ∧ ([] : List Fld).length ≤ 30000))) from
          ⟨(fun k hk => absurd hk (by simp)), (fun _ => ⟨rfl, rfl⟩), (fun a e => nomatch e), (fun x hx => nomatch hx), Nat.zero_le _⟩)
        have h2b : w2.heap.size ≤ b7 := Nat.le_of_eq HB7.out
        refine (serve_own HG.out HW.out.1 HW.out.2.1 site0 (fun x hx => by cases hx) (qP ⟨#[80, 79, 83, 84]⟩ [] body) (none) 0 A c (rqe_ok (by decide) HF.out.1 HF.out.2.2 (fun _ => ⟨rfl, rfl⟩) (HA.out.1.no HW.out.1) (fun e => ⟨by have := HA.out.2.1; have := HA.out.2.2.2 e; omega, HA.out.2.2.2 e⟩) hbl)).mono ?_
        rintro e w8 ⟨v1, rfl, hv, hs8⟩
        obtain ⟨A1, c1, A2, nb, c2, A3, c3, rfl, hw⟩ := echo_rc HTY.out hv
        have hb8 := HW.out.2.2.sm hs8 (fun h => h)
        have u0 := hb8.at 0 (v := .string ⟨#[80, 79, 83, 84]⟩) rfl
        have u1 := hb8.at 1 (v := .int .i64 1) rfl
        have u2 := hb8.at 2 (v := .string ⟨#[]⟩) rfl
        have u3 := hb8.at 3 (v := .string ⟨#[47, 101, 99, 104, 111]⟩) rfl
        have u4 := hb8.at 4 (v := .string ⟨#[]⟩) rfl
        have u5 := hb8.at 5 (v := .int .i64 0) rfl
        have u6 := hb8.at 6 (v := .slice (none) 0 0) rfl
        have u7 := hb8.at 7 (v := .slice A body.length c) rfl
        have u8 := hb8.at 8 (v := .bool false) rfl
        have u9 := hb8.at 9 (v := .bool false) rfl
        have uf := hb8.fz 0
        have ul := hb8.lt
        obtain ⟨w10, hw10⟩ : ∃ w10, (w8.setCell ⟨b7, 0, none⟩ (.string ⟨#[71, 69, 84]⟩)).alloc (.cells #[.int .i64 200, .slice A1 1 c1, .slice A2 nb c2, .slice A3 0 c3] 52) = w10 := ⟨_, rfl⟩
        have hs8_10 : Sm (fun b => b = b7) w8 w10 := by rw [← hw10]; exact ((Sm.refl _ _).set1 0 _).alloc _
        have hb10 : Bk w10 b7 29 #[.string ⟨#[71, 69, 84]⟩, .int .i64 1, .string ⟨#[]⟩, .string ⟨#[47, 101, 99, 104, 111]⟩, .string ⟨#[]⟩, .int .i64 0, .slice (none) 0 0, .slice A body.length c, .bool false, .bool false] := by rw [← hw10]; exact (hb8.set 0 _).alloc _
        have ha10 : Bk w10 w8.heap.size 52 #[.int .i64 200, .slice A1 1 c1, .slice A2 nb c2, .slice A3 0 c3] := by rw [← hw10]; exact Bk.newAt _ _ _ (by simp)
        have hsW : Sm (fun b => b = b7) w5 w10 := (hs8.any _).trans hs8_10 (fun _ _ h => h)
        have hsw : Sm No w w10 := HW.out.1.fresh hsW (fun b e => by omega)
        have hS10 := HSi.out.2.no (HSi.out.1.fresh hsW (fun b e => by omega))
        have hf10 := HF.out.1.sm hsW (fun a e h => HF.out.2.2.1 a e h)
        have hv10 := hw.sm hs8_10 (fun b e => by have := HW.out.2.2.lt; omega)
        have H10 := Lib.hid (And.intro hsw (And.intro hS10 (And.intro hb10 (And.intro ha10 (And.intro hf10 hv10)))))
        have HW10 := Lib.hid hw10
        clear hs8 hv hw hb8 hw10 hb10 ha10 hs8_10 hsW hsw hS10 hf10 hv10
        go_wp2_with fail
        rw [HW10.out]
        refine (serve_own HG.out H10.out.1 H10.out.2.1 site0 (fun x hx => by cases hx) (qP ⟨#[71, 69, 84]⟩ [] body) (none) 0 A c (rqe_ok (by decide) H10.out.2.2.2.2.1 HF.out.2.2 (fun _ => ⟨rfl, rfl⟩) (HA.out.1.no H10.out.1) (fun e => ⟨by have := HA.out.2.1; have := HA.out.2.2.2 e; omega, HA.out.2.2.2 e⟩) hbl)).mono ?_
        rintro e w11 ⟨v2, rfl, hv2, hs11⟩
        obtain ⟨B1, d1, B2, mb, d2, B3, d3, rfl, hw2⟩ := echo_rd hv2.rc
        have ha11 := H10.out.2.2.2.1.sm hs11 (fun h => h)
        have r0 := ha11.at 0 (v := .int .i64 200) rfl
        have r1 := ha11.at 1 (v := .slice A1 1 c1) rfl
        have r2 := ha11.at 2 (v := .slice A2 nb c2) rfl
        have r3 := ha11.at 3 (v := .slice A3 0 c3) rfl
        have rl := ha11.lt
        obtain ⟨w12, hw12⟩ : ∃ w12, w11.alloc (.cells #[.int .i64 405, .slice B1 2 d1, .slice B2 mb d2, .slice B3 0 d3] 52) = w12 := ⟨_, rfl⟩
        have hb12 : Bk w12 w11.heap.size 52 #[.int .i64 405, .slice B1 2 d1, .slice B2 mb d2, .slice B3 0 d3] := by rw [← hw12]; exact Bk.new w11 _ _
        have hs12 : Sm No w11 w12 := by rw [← hw12]; exact (Sm.refl No w11).alloc _
        have hz12 : w11.heap.size + 1 = w12.heap.size := by rw [← hw12]; simp
        have hs10 := hs11.trans hs12 (fun _ _ h => h)
        have H12 := Lib.hid (And.intro (H10.out.1.trans hs10 (fun _ _ h => h)) (And.intro hb12 (And.intro (H10.out.2.2.2.2.2.no hs10) (hw2.no hs12))))
        have HW12 := Lib.hid (And.intro hw12 hz12)
        clear hv2 hw2 hs11 ha11 hw12 hb12 hs12 hz12 hs10 u0 u1 u2 u3 u4 u5 u6 u7 u8 u9 uf ul
        go_wp2_with fail
        rw [HW12.out.1, HW12.out.2]
        clear r0 r1 r2 r3 rl
        refine (response20_any (w12.alloc (.cells #[.string ⟨#[67, 111, 110, 116, 101, 110, 116, 45, 84, 121, 112, 101]⟩, .string ⟨#[97, 112, 112, 108, 105, 99, 97, 116, 105, 111, 110, 47, 111, 99, 116, 101, 116, 45, 115, 116, 114, 101, 97, 109]⟩] 65)) _ _ (okL ⟨#[97, 112, 112, 108, 105, 99, 97, 116, 105, 111, 110, 47, 111, 99, 116, 101, 116, 45, 115, 116, 114, 101, 97, 109]⟩ body) (H12.out.2.2.1.rc.no ((Sm.refl No w12).alloc _)) (echo_built ⟨#[97, 112, 112, 108, 105, 99, 97, 116, 105, 111, 110, 47, 111, 99, 116, 101, 116, 45, 115, 116, 114, 101, 97, 109]⟩ body A c ((HA.out.1.no H12.out.1).no ((Sm.refl No w12).alloc _)) (Bk.new w12 _ _)) ⟨by show 1 ≤ 1000000; decide, by show body.length ≤ 1000000; omega, by show 0 ≤ 1000000; decide⟩).mono ?_
        rintro e w13 ⟨rfl, hs13⟩
        have hs13 := ((Sm.refl No w12).alloc (.cells #[.string ⟨#[67, 111, 110, 116, 101, 110, 116, 45, 84, 121, 112, 101]⟩, .string ⟨#[97, 112, 112, 108, 105, 99, 97, 116, 105, 111, 110, 47, 111, 99, 116, 101, 116, 45, 115, 116, 114, 101, 97, 109]⟩] 65)).trans hs13 (fun _ _ h => h)
        have hb13 := H12.out.2.1.sm hs13 (fun h => h)
        have r0 := hb13.at 0 (v := .int .i64 405) rfl
        have r1 := hb13.at 1 (v := .slice B1 2 d1) rfl
        have rl := hb13.lt
        have H13 := Lib.hid (And.intro (H12.out.1.trans hs13 (fun _ _ h => h)) (H12.out.2.2.2.no hs13))
        clear hs13 hb13
        go_wp2_with fail
        have hrow : FRow (w13.alloc (.cells #[.string ⟨#[67, 111, 110, 116, 101, 110, 116, 45, 84, 121, 112, 101]⟩, .string ⟨#[116, 101, 120, 116, 47, 112, 108, 97, 105, 110]⟩, .string ⟨#[65, 108, 108, 111, 119]⟩, .string ⟨#[80, 79, 83, 84]⟩] 65)) (some ⟨w13.heap.size, 0, none⟩) [ctOf sPlain, (txtB sAllow, txtB POST)] :=
          RowC.frow (rowC_bk (cs := #[.string ⟨#[67, 111, 110, 116, 101, 110, 116, 45, 84, 121, 112, 101]⟩, .string ⟨#[116, 101, 120, 116, 47, 112, 108, 97, 105, 110]⟩, .string ⟨#[65, 108, 108, 111, 119]⟩, .string ⟨#[80, 79, 83, 84]⟩]) (Bk.new w13 65 _))
        refine (fields20_any _ B1 (some ⟨w13.heap.size, 0, none⟩) d1 2 [ctOf sPlain, (txtB sAllow, txtB POST)] (H13.out.2.no ((Sm.refl No w13).alloc _)) hrow (by decide)).mono ?_
        clear hrow
        rintro e w14 ⟨rfl, hs14⟩
        have H14 := Lib.hid ((H13.out.1.alloc (.cells #[.string ⟨#[67, 111, 110, 116, 101, 110, 116, 45, 84, 121, 112, 101]⟩, .string ⟨#[116, 101, 120, 116, 47, 112, 108, 97, 105, 110]⟩, .string ⟨#[65, 108, 108, 111, 119]⟩, .string ⟨#[80, 79, 83, 84]⟩] 65)).trans hs14 (fun _ _ h => h))
        clear hs14 r0 r1 rl
        go_wp2_with fail
        refine (known20_any w14 (HG.out.no H14.out)).mono ?_
        rintro e w15 ⟨rfl, hs15⟩
        have H15 := Lib.hid (H14.out.trans hs15 (fun _ _ h => h))
        clear hs15
        go_wp2_with fail
        go_ret
        exact ⟨rfl, H15.out⟩
    · have i1 : ¬ (5000 : Int) < (body.length : Int) := by omega
      have i2 : (200 : Int) < (kind.size : Int) := by omega
      go_wp2_with fail
      go_ret
      exact ⟨rfl, Sm.refl _ _⟩
  · have i1 : (5000 : Int) < (body.length : Int) := by omega
    go_wp2_with fail
    go_ret
    exact ⟨rfl, Sm.refl _ _⟩
end Go.Proofs.YtiglfbimijnpcaaGreatDoor

