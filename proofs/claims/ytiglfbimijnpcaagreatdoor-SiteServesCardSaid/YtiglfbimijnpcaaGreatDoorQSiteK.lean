/- A nil Site; what is known; the law SiteOfNothing: its walk. -/
import Derived.Test.YtiglfbimijnpcaaGreatDoorQSiteH
import Derived.Test.YtiglfbimijnpcaaGreatDoorQSiteI
import Derived.Test.YtiglfbimijnpcaaGreatDoorQSiteJ
namespace Go.Proofs.YtiglfbimijnpcaaGreatDoor
open Go.RowKit Go.Proofs

set_option maxRecDepth 100000 in
set_option maxHeartbeats 8000000 in
theorem snil_any (w : World) (hg : G1 w) (q : Rq) (A : Option Addr) (c : Nat) (B : Option Addr) (d : Nat) :
    Calls Tryz.prog 15 #[.pointer none, reqV q A c B d] w (AnsPost w w.heap.size (cannedL 404 [])) := by
  obtain ⟨m, form, host, path, query, minor, fs, body, close, expect⟩ := q
  have HG := Lib.hid hg
  clear hg
  unfold reqV
  dsimp only
  obtain ⟨R, hRR⟩ : ∃ R, cannedL 404 [] = R := ⟨_, rfl⟩
  rw [hRR]
  have HRR := Lib.hid hRR
  clear hRR
  obtain ⟨b0, hb0⟩ : ∃ b0, w.heap.size = b0 := ⟨_, rfl⟩
  have HR0 := Lib.hid hb0
  rw [hb0]
  clear hb0
  go_enter Tryz.func15, Tryz.ntmps15
  go_wp2_with fail
  rw [HR0.out]
  obtain ⟨w1, hw1⟩ : ∃ w1, (w.alloc (.cells #[.string m, .int .i64 form, .string host, .string path, .string query, .int .i64 minor, .slice A fs.length c, .slice B body.length d, .bool close, .bool expect] 29)).alloc (.cells #[.int .i64 0, .slice none 0 0, .slice none 0 0, .slice none 0 0] 52) = w1 := ⟨_, rfl⟩
  rw [hw1]
  have hs1 : Sm No w w1 := by rw [← hw1]; exact ((Sm.refl No w).alloc _).alloc _
  have hbr : Bk w1 (b0 + 1) 52 #[.int .i64 0, .slice none 0 0, .slice none 0 0, .slice none 0 0] := by rw [← hw1]; exact Bk.newAt _ _ _ (by rw [← HR0.out]; simp)
  have H1 := Lib.hid (And.intro hs1 hbr)
  clear hs1 hbr hw1
  refine (canned_any w1 (HG.out.no (H1.out.1)) 404 (by decide) (by decide) none 0 [] (fun k hk => by cases hk) (fun _ => ⟨rfl, rfl⟩) (by decide)).mono ?_
  rintro e w3 ⟨v, rfl, hR, hs3⟩
  have hb3 := (H1.out.2).sm hs3 (fun h => h)
  have hs3 := (H1.out.1).trans hs3 (fun _ _ h => h)
  have hlt : b0 + 1 < w1.heap.size := (H1.out.2).lt
  rw [show cannedL 404 [] = R from HRR.out] at hR
  obtain ⟨vF, vB, vP, rfl, hFF, hB, hP⟩ := hR
  obtain ⟨A1, c1', rfl, _⟩ := hFF.row
  obtain ⟨A2, c2', rfl, _⟩ := hB.row
  obtain ⟨A3, c3', rfl, _⟩ := hP.row
  have HD := Lib.hid (ans_done (by rw [HR0.out]; omega) hs3 hb3 hlt ⟨_, _, _, rfl, hFF, hB, hP⟩)
  have hl := hb3.lt
  have f0 := hb3.fz 0
  have f1 := hb3.fz 1
  have f2 := hb3.fz 2
  have f3 := hb3.fz 3
  have d0 := hb3.at 0 rfl
  have d1 := hb3.at 1 rfl
  have d2 := hb3.at 2 rfl
  have d3 := hb3.at 3 rfl
  clear hFF hB hP hb3 hs3 hlt
  go_wp2_with fail
  have c0 := HD.out.2.at 0 rfl
  have c1 := HD.out.2.at 1 rfl
  have c2 := HD.out.2.at 2 rfl
  have c3 := HD.out.2.at 3 rfl
  exact bodyPost_ret (v := .agg #[.int .i64 R.st, .slice A1 R.fs.length c1', .slice A2 R.body.length c2', .slice A3 R.parts.length c3']) (by simp [results, Tryz.results15, go_sem, c0, c1, c2, c3]) rfl (by have h := HD.out.1; rw [HR0.out] at h; exact h)

/-- A Site of the call's own, and what it answers. -/
theorem serve_own {w w1 : World} {O : Nat → Prop} {s : Nat} {T : List Ent} (hg : G1 w) (hs : Sm No w w1) (h : IsSite w1 O s T) (hc : siteC T = 0) (hsm : SmallE T) (q : Rq) (A : Option Addr) (c : Nat) (B : Option Addr) (d : Nat) (hq : RqOk w1 q A c B d) :
    Calls Tryz.prog 15 #[.pointer (some ⟨s, 0, none⟩), reqV q A c B d] w1 fun e w2 => ∃ v, e = .returned v ∧ RspV w2 w1.heap.size v (serveL T q) ∧ Sm No w1 w2 :=
  sserve_any w1 (hg.no hs) O s T h (table_40 hc) hsm q A c B d hq
theorem IsSite.router {w : World} {O : Nat → Prop} {s : Nat} {T : List Ent} (h : IsSite w O s T) : ∃ r, w.cell? ⟨s, 0, none⟩ = some (.pointer (some ⟨r, 0, none⟩)) ∧ s < w.heap.size := by
  obtain ⟨Q, r, vT, _, h2, _⟩ := h
  exact ⟨r, h2.at 0 rfl, h2.lt⟩
theorem rq0_ok (w : World) (q : Rq) (h1 : q.m.size ≤ 30000) (h2 : q.path.size ≤ 30000) (h3 : q.query.size ≤ 30000) (hf : q.fs = []) (hb : q.body = []) : RqOk w q none 0 none 0 := by
  refine ⟨?_, fun _ => ⟨by rw [hf]; rfl, rfl⟩, ?_, fun _ => ⟨by rw [hb]; rfl, rfl⟩, h1, h2, h3, ?_, by rw [hf]; decide, by rw [hb]; decide⟩
  · rw [hf]; exact fun k hk => absurd hk (by simp)
  · rw [hb]; exact RowC.nil _ _
  · rw [hf]; intro x hx; cases hx
theorem smallA : SmallE [eA] := by
  intro x hx
  have : x = eA := by simpa using hx
  subst this
  decide
theorem kn20_ra {w : World} {v : Value} (h : RspC w v (serveL [eA] qA)) : ∃ A1 c1 A2 c2 A3 c3, v = .agg #[.int .i64 200, .slice A1 1 c1, .slice A2 17 c2, .slice A3 2 c3] ∧ RowC w A3 (intsV [16, 17]) := by
  rw [kn20_a] at h
  obtain ⟨A1, c1, A2, c2, A3, c3, rfl, _, _, h3⟩ := h
  exact ⟨A1, c1, A2, c2, A3, c3, rfl, h3⟩
theorem kn20_rb {w : World} {v : Value} (h : RspC w v (serveL [eA] qB)) : ∃ A1 c1 A2 c2 A3 c3, v = .agg #[.int .i64 204, .slice A1 1 c1, .slice A2 0 c2, .slice A3 0 c3] ∧ FRow w A1 [(txtB sAllow, txtB sAGH)] := by
  rw [kn20_b] at h
  obtain ⟨A1, c1, A2, c2, A3, c3, rfl, h1, _⟩ := h
  exact ⟨A1, c1, A2, c2, A3, c3, rfl, h1⟩
set_option maxRecDepth 100000 in
set_option maxHeartbeats 8000000 in
theorem known20_any (w : World) (hg : G1 w) : Calls Tryz.prog 13 #[] w fun e w' => e = .returned (.bool true) ∧ Sm No w w' := by
  have HG := Lib.hid hg
  clear hg
  go_enter Tryz.func13, Tryz.ntmps13
  go_wp2_with fail
  obtain ⟨w1, hw1⟩ : ∃ w1, w.alloc (.cells #[.string eA.path, .string eA.type, .string eA.data] 56) = w1 := ⟨_, rfl⟩
  have hw1' := hw1
  unfold eA at hw1'
  dsimp only at hw1'
  rw [hw1']
  have hb1 : Bk w1 w.heap.size 56 #[.string eA.path, .string eA.type, .string eA.data] := by rw [← hw1]; exact Bk.new w _ _
  have hs1 : Sm No w w1 := by rw [← hw1]; exact (Sm.refl No w).alloc _
  have H1 := Lib.hid (And.intro hs1 hb1)
  clear hw1 hw1' hb1 hs1
  refine (snew_any w1 (HG.out.1.no H1.out.1) (some ⟨w.heap.size, 0, none⟩) 1 [eA] (rowC_bk H1.out.2) (fun e => by cases e) (by decide) smallA).mono ?_
  rintro e w2 hN
  obtain ⟨s, O, rfl, hS, hs2, _⟩ := (hN.resolve_right (fun h => h.1 kn20_c)).2
  obtain ⟨r, hr, hsl⟩ := hS.router
  have H2 := Lib.hid (And.intro (H1.out.1.trans hs2 (fun _ _ h => h)) hS)
  clear hN hS hs2
  go_wp2_with fail
  refine (serve_own HG.out H2.out.1 H2.out.2 kn20_c smallA qA none 0 none 0 (rq0_ok w2 qA (by decide) (by decide) (by decide) rfl rfl)).mono ?_
  rintro e w3 ⟨v, rfl, hv, hs3⟩
  obtain ⟨A1, c1, A2, c2, A3, c3, rfl, f3⟩ := kn20_ra hv.rc
  obtain ⟨w4, hw4⟩ : ∃ w4, w3.alloc (.cells #[.int .i64 200, .slice A1 1 c1, .slice A2 17 c2, .slice A3 2 c3] 52) = w4 := ⟨_, rfl⟩
  have hb4 : Bk w4 w3.heap.size 52 #[.int .i64 200, .slice A1 1 c1, .slice A2 17 c2, .slice A3 2 c3] := by rw [← hw4]; exact Bk.new w3 _ _
  have hs4 : Sm No w3 w4 := by rw [← hw4]; exact (Sm.refl No w3).alloc _
  have hs24 := hs3.trans hs4 (fun _ _ h => h)
  have H4 := Lib.hid (And.intro (H2.out.1.trans hs24 (fun _ _ h => h)) (And.intro (H2.out.2.no hs24) (And.intro hb4 (f3.no hs4))))
  have HW4 := Lib.hid hw4
  clear hv hs3 hb4 hs4 hs24 f3 hw4 hr hsl
  go_wp2_with fail
  rw [HW4.out]
  refine (serve_own HG.out H4.out.1 H4.out.2.1 kn20_c smallA qB none 0 none 0 (rq0_ok w4 qB (by decide) (by decide) (by decide) rfl rfl)).mono ?_
  rintro e w5 ⟨v, rfl, hv, hs5⟩
  obtain ⟨B1, d1, B2, d2, B3, d3, rfl, g1⟩ := kn20_rb hv.rc
  have hb5 := H4.out.2.2.1.sm hs5 (fun h => h)
  have r3 := hb5.at 3 (v := .slice A3 2 c3) rfl
  have rl := hb5.lt
  have H5 := Lib.hid (And.intro (H4.out.1.trans hs5 (fun _ _ h => h)) (And.intro (H4.out.2.2.2.no hs5) g1))
  clear hv hs5 hb5 g1
  go_wp2_with fail
  obtain ⟨w6, hw6⟩ : ∃ w6, w5.alloc (.cells #[.int .i64 204, .slice B1 1 d1, .slice B2 0 d2, .slice B3 0 d3] 52) = w6 := ⟨_, rfl⟩
  have hb6 : Bk w6 w5.heap.size 52 #[.int .i64 204, .slice B1 1 d1, .slice B2 0 d2, .slice B3 0 d3] := by rw [← hw6]; exact Bk.new w5 _ _
  have hs6 : Sm No w5 w6 := by rw [← hw6]; exact (Sm.refl No w5).alloc _
  have hz6 : w5.heap.size + 1 = w6.heap.size := by rw [← hw6]; simp
  rw [hw6, hz6]
  have H6 := Lib.hid (And.intro hb6 hs6)
  clear hw6 hb6 hs6 r3 rl hz6
  have hrow : RowC (w6.alloc (.cells #[.int .i64 16, .int .i64 17] 3)) (some ⟨w6.heap.size, 0, none⟩) (intsV [16, 17]) := rowC_bk (cs := #[.int .i64 16, .int .i64 17]) (Bk.new w6 3 _)
  refine (ints20_any (w6.alloc (.cells #[.int .i64 16, .int .i64 17] 3)) A3 (some ⟨w6.heap.size, 0, none⟩) c3 2 [16, 17] (H5.out.2.1.no (H6.out.2.alloc _)) hrow (by decide)).mono ?_
  clear hrow
  rintro e w7 ⟨rfl, hs7⟩
  have hb7 := (H6.out.1.alloc (.cells #[.int .i64 16, .int .i64 17] 3)).sm hs7 (fun h => h)
  have r0 := hb7.at 0 (v := .int .i64 204) rfl
  have r1 := hb7.at 1 (v := .slice B1 1 d1) rfl
  have rl := hb7.lt
  have hs57 := (H6.out.2.alloc (.cells #[.int .i64 16, .int .i64 17] 3)).trans hs7 (fun _ _ h => h)
  have H7 := Lib.hid (And.intro (H5.out.1.trans hs57 (fun _ _ h => h)) (H5.out.2.2.no hs57))
  clear hb7 hs7 hs57
  go_wp2_with fail
  have hrow : FRow (w7.alloc (.cells #[.string ⟨#[65, 108, 108, 111, 119]⟩, .string ⟨#[71, 69, 84, 44, 32, 72, 69, 65, 68]⟩] 65)) (some ⟨w7.heap.size, 0, none⟩) [(txtB sAllow, txtB sAGH)] := fRow_one (a := ⟨#[65, 108, 108, 111, 119]⟩) (b := ⟨#[71, 69, 84, 44, 32, 72, 69, 65, 68]⟩) (Bk.new w7 65 _)
  refine (fields20_any (w7.alloc (.cells #[.string ⟨#[65, 108, 108, 111, 119]⟩, .string ⟨#[71, 69, 84, 44, 32, 72, 69, 65, 68]⟩] 65)) B1 (some ⟨w7.heap.size, 0, none⟩) d1 1 [(txtB sAllow, txtB sAGH)] (H7.out.2.no ((Sm.refl No w7).alloc _)) hrow (by decide)).mono ?_
  clear hrow
  rintro e w8 ⟨rfl, hs8⟩
  have H8 := Lib.hid ((H7.out.1.alloc (.cells #[.string ⟨#[65, 108, 108, 111, 119]⟩, .string ⟨#[71, 69, 84, 44, 32, 72, 69, 65, 68]⟩] 65)).trans hs8 (fun _ _ h => h))
  clear hs8 r0 r1 rl
  go_wp2_with fail
  go_ret
  exact ⟨rfl, H8.out⟩
set_option maxRecDepth 100000 in
set_option maxHeartbeats 4000000 in
/-- SiteOfNothing: its walk. -/
theorem nothing20_any (m : ByteArray) (hm : m.size ≤ 140737488351232) (w : World) (hg : G1 w) : Calls Tryz.prog 5 #[.string m] w fun e w' => e = .returned (.bool true) ∧ Sm No w w' := by
  have HG := Lib.hid hg
  clear hg
  go_enter Tryz.func5, Tryz.ntmps5
  by_cases h5 : m.size ≤ 5000
  · have i1 : ¬ (5000 : Int) < (m.size : Int) := by omega
    go_wp2_with fail
    refine (snil_any w HG.out ⟨m, 0, ⟨#[]⟩, ⟨#[]⟩, ⟨#[]⟩, 0, [], [], false, false⟩ none 0 none 0).mono ?_
    rintro e w1 ⟨v, rfl, hv, hs1⟩
    obtain ⟨A1, c1, A2, c2, A3, c3, rfl, _⟩ := hv.rc
    rw [show (cannedL 404 []).st = 404 from by unfold cannedL; rw [if_neg (by decide)]]
    have hfd : ∀ (w : World) (b c d : Value), (Instr.field 52 (.agg #[.int .i64 404, b, c, d]) 0).run Tryz.prog w = .ok (.int .i64 404) w := fun _ _ _ _ => by kernel_rfl
    have H1 := Lib.hid hs1
    clear hv hs1
    go_wp2_with fail
    refine (known20_any w1 (HG.out.no H1.out)).mono ?_
    rintro e w2 ⟨rfl, hs2⟩
    have H2 := Lib.hid (H1.out.trans hs2 (fun _ _ h => h))
    clear hs2
    go_wp2_with fail
    go_ret
    exact ⟨rfl, H2.out⟩
  · have i1 : (5000 : Int) < (m.size : Int) := by omega
    go_wp2_with fail
    go_ret
    exact ⟨rfl, Sm.refl _ _⟩
end Go.Proofs.YtiglfbimijnpcaaGreatDoor

