/- What a Site answers, at some requests, in words. -/
/- What an empty Site answers, in words: the echo. -/
/- A nil Site; what is known; the law SiteOfNothing: its walk. -/
import Derived.Test.YtiglfbimijnpcaaGreatDoorQG
import Derived.Test.YtiglfbimijnpcaaGreatDoorQC
import Derived.Test.YtiglfbimijnpcaaGreatDoorQSiteH
import Derived.Test.YtiglfbimijnpcaaGreatDoorQSiteI
namespace Go.Proofs.YtiglfbimijnpcaaGreatDoor
open Go.RowKit Go.Proofs

theorem filter_pat {L : List Lt} (h : (L.map (·.pat)).Nodup) {y : Lt} (hy : y ∈ L) : L.filter (fun x => x.pat == y.pat) = [y] := by
  induction L with
  | nil => cases hy
  | cons z r ih =>
    rw [List.map_cons, List.nodup_cons] at h
    rw [List.filter_cons]
    rcases List.mem_cons.1 hy with rfl | hy
    · rw [if_pos (by simp)]
      have : r.filter (fun x => x.pat == y.pat) = [] := List.filter_eq_nil_iff.2 (fun a ha e => h.1 (by
        have e : a.pat = y.pat := by simpa using e
        rw [← e]; exact List.mem_map_of_mem ha))
      rw [this]
    · have hne : ¬ (z.pat == y.pat) = true := fun e => h.1 (by
        have e : z.pat = y.pat := by simpa using e
        rw [e]; exact List.mem_map_of_mem hy)
      rw [if_neg hne, ih h.2 hy]
theorem entLts_pats (i : Nat) (T : List Ent) : (entLts i T).map (·.pat) = pathsL T := by
  induction T generalizing i with
  | nil => rfl
  | cons x r ih =>
    show txt x.path :: (entLts (i + 1) r).map (·.pat) = _
    rw [ih]; rfl
theorem routes_pats2 (T : List Ent) : (routesL T).map (·.pat) = pEcho :: pKey :: pStat :: pathsL T := by
  unfold routesL
  rw [List.map_append, entLts_pats]; rfl
theorem site_ok {T : List Ent} (h : siteC T = 0) : tableB T = true ∧ apartB T = true := by
  unfold siteC at h
  split at h
  · split at h
    · exact ⟨by assumption, by assumption⟩
    · cases h
  · cases h
theorem table_40 {T : List Ent} (h : siteC T = 0) : T.length ≤ 40 := by
  have := (site_ok h).1
  unfold tableB at this
  simp only [Bool.and_eq_true, decide_eq_true_eq] at this
  exact this.1
theorem site_ent {T : List Ent} (h : siteC T = 0) {x : Ent} (hx : x ∈ T) : entB x = true := by
  have := (site_ok h).1
  unfold tableB at this
  simp only [Bool.and_eq_true] at this
  exact List.all_eq_true.1 this.2 x hx
theorem table_nodup {T : List Ent} (h : siteC T = 0) : (pEcho :: pKey :: pStat :: pathsL T).Nodup := of_decide_eq_true (site_ok h).2
theorem sel_ent {T : List Ent} (h : siteC T = 0) {k : Nat} {x : Ent} (hx : T[k]? = some x) : sel (routesL T) (false, txt x.path) = [entLt k x] := by
  have hp := (allE_false (site_ent h (List.mem_of_getElem? hx))).1
  have hw : wideL (txt x.path) = false := by
    unfold plainL at hp
    simp only [Bool.and_eq_true, Bool.not_eq_true'] at hp
    exact hp.2
  rw [← key_plain hw, sel_pat]
  have hm : entLt k x ∈ routesL T := by
    unfold routesL
    refine List.mem_append_right _ ?_
    have := entLts_mem (i := 0) hx
    rwa [Nat.zero_add] at this
  exact filter_pat (by rw [routes_pats2]; exact table_nodup h) hm
theorem match_ent {T : List Ent} (h : siteC T = 0) {k : Nat} {x : Ent} (hx : T[k]? = some x) {m : Txt} (hm : m = GET ∨ m = HEAD) : matchL (routesL T) m (txt x.path) = (10 + (k : Int), [], [], 200) := by
  have e1 : findP (routesL T) (txt x.path) = some ((false, txt x.path), []) := by
    unfold findP
    rw [sel_ent h hx]
    rfl
  have e2 : pickL [entLt k x] m = some (10 + (k : Int)) := by
    have e : ((10 + k : Nat) : Int) = 10 + (k : Int) := by omega
    have o1 : ofL [entLt k x] GET = some ((10 + k : Nat) : Int) := rfl
    have o2 : ofL [entLt k x] HEAD = none := rfl
    rcases hm with rfl | rfl
    · unfold pickL
      rw [o1]
      exact congrArg some e
    · unfold pickL
      rw [o2]
      simp only
      rw [if_true, o1]
      exact congrArg some e
  unfold matchL
  rw [e1]
  simp only [sel_ent h hx, e2]
theorem serve_ent {T : List Ent} (h : siteC T = 0) {k : Nat} {x : Ent} (hx : T[k]? = some x) {q : Rq} (hf : q.form = 1) (hm : txt q.m = GET ∨ txt q.m = HEAD) (hp : q.path = x.path) : serveL T q = entA x := by
  unfold serveL
  have h4 : txt q.m ∈ m4 := by rcases hm with e | e <;> rw [e] <;> decide
  rw [if_neg (by rw [hf]; decide), if_neg (by rw [hf]; rintro (e | e); · cases e
                                              · exact e h4), hp, match_ent h hx hm]
  simp only
  rw [if_neg (by decide), if_neg (by decide)]
  unfold idA
  rw [if_neg (by omega), if_neg (by omega), if_neg (by omega), show ((10 + (k : Int)) - 10).toNat = k by omega, hx]
/-! The known ones. -/
def eA : Ent := ⟨⟨#[47, 97]⟩, ⟨#[115, 116, 114, 101, 97, 109, 47, 120]⟩, ⟨#[48, 49, 50, 51, 52, 53, 54, 55, 56, 57, 97, 98, 99, 100, 101, 102, 103]⟩⟩
theorem kn20_c : siteC [eA] = 0 := by decide +kernel
def qA : Rq := ⟨⟨#[71, 69, 84]⟩, 1, ⟨#[]⟩, ⟨#[47, 97]⟩, ⟨#[]⟩, 0, [], [], false, false⟩
def qB : Rq := ⟨⟨#[79, 80, 84, 73, 79, 78, 83]⟩, 1, ⟨#[]⟩, ⟨#[47, 115, 116, 97, 116, 117, 115]⟩, ⟨#[]⟩, 0, [], [], false, false⟩
theorem kn20_a : serveL [eA] qA = ⟨200, [(txtB sCT, eA.type)], txt eA.data, [16, 17]⟩ := by
  rw [serve_ent (T := [eA]) (k := 0) kn20_c rfl rfl (Or.inl rfl) rfl]
  rfl
def sAGH : List UInt8 := [71, 69, 84, 44, 32, 72, 69, 65, 68]
theorem allow_GH (i : Int) (p : Txt) : allowP [⟨p, i, [GET]⟩] = [GET, HEAD] := by
  have e : withHead (msL [⟨p, i, [GET]⟩]) = [GET, HEAD] := by rfl
  have e2 : sortL [GET, HEAD] = [GET, HEAD] := List.mergeSort_of_pairwise (by decide)
  rw [allowP, e, e2]
  simp [Lib.compact, Lib.compactUpTo, Lib.keeps, GET, HEAD, List.range_succ]
theorem kn20_b : serveL [eA] qB = ⟨204, [(txtB sAllow, txtB sAGH)], [], []⟩ := by
  have e1 : findP (routesL [eA]) pStat = some ((false, pStat), []) := by decide +kernel
  have e2 : sel (routesL [eA]) (false, pStat) = [⟨pStat, 3, [GET]⟩] := by rfl
  have e3 : pickL [⟨pStat, 3, [GET]⟩] OPTS = none := by decide +kernel
  have hm : matchL (routesL [eA]) (txt qB.m) (txt qB.path) = (0, [], [GET, HEAD], 405) := by
    show matchL (routesL [eA]) OPTS pStat = _
    unfold matchL
    rw [e1]
    simp only [e2, e3, allow_GH]
  unfold serveL
  rw [if_neg (by decide), if_neg (by decide), hm]
  simp only
  rw [if_neg (by decide), if_true, if_pos (by rfl)]
  rfl
end Go.Proofs.YtiglfbimijnpcaaGreatDoor

namespace Go.Proofs.YtiglfbimijnpcaaGreatDoor
open Go.RowKit Go.Proofs

end Go.Proofs.YtiglfbimijnpcaaGreatDoor

namespace Go.Proofs.YtiglfbimijnpcaaGreatDoor
open Go.RowKit Go.Proofs

/-- A Site of the call's own, and what it answers. -/
theorem serve_own {w w1 : World} {O : Nat → Prop} {s : Nat} {T : List Ent} (hg : G1 w) (hs : Sm No w w1) (h : IsSite w1 O s T) (hc : siteC T = 0) (hsm : SmallE T) (q : Rq) (A : Option Addr) (c : Nat) (B : Option Addr) (d : Nat) (hq : RqOk w1 q A c B d) :
    Calls Tryz.prog 15 #[.pointer (some ⟨s, 0, none⟩), reqV q A c B d] w1 fun e w2 => ∃ v, e = .returned v ∧ RspV w2 w1.heap.size v (serveL T q) ∧ Sm No w1 w2 :=
  sserve_any w1 (hg.no hs) O s T h (table_40 hc) hsm q A c B d hq
theorem IsSite.router {w : World} {O : Nat → Prop} {s : Nat} {T : List Ent} (h : IsSite w O s T) : ∃ r, w.cell? ⟨s, 0, none⟩ = some (.pointer (some ⟨r, 0, none⟩)) ∧ s < w.heap.size := by
  obtain ⟨Q, r, vT, _, h2, _⟩ := h
  exact ⟨r, h2.at 0 rfl, h2.lt⟩
theorem rq0_ok (w : World) (q : Rq) (h1 : q.m.size ≤ 30000) (h2 : q.path.size ≤ 30000) (h3 : q.query.size ≤ 30000) (hf : q.fs = []) (hb : q.body = []) : RqOk w q none 0 none 0 := by
  refine ⟨?_, fun _ => ⟨by rw [hf]; rfl, rfl⟩, ?_, fun _ => ⟨by rw [hb]; rfl, rfl⟩, h1, h2, h3, ?_, by rw [hf]; decide, by rw [hb]; decide⟩
  · rw [hf]; exact fun k hk => absurd hk (by simp)
  · rw [hb]; exact RowC.nil _ _
  · rw [hf]; intro x hx; cases hx
theorem smallA : SmallE [eA] := by
  intro x hx
  have : x = eA := by simpa using hx
  subst this
  decide
theorem kn20_ra {w : World} {v : Value} (h : RspC w v (serveL [eA] qA)) : ∃ A1 c1 A2 c2 A3 c3, v = .agg #[.int .i64 200, .slice A1 1 c1, .slice A2 17 c2, .slice A3 2 c3] ∧ RowC w A3 (intsV [16, 17]) := by
  rw [kn20_a] at h
  obtain ⟨A1, c1, A2, c2, A3, c3, rfl, _, _, h3⟩ := h
  exact ⟨A1, c1, A2, c2, A3, c3, rfl, h3⟩
theorem kn20_rb {w : World} {v : Value} (h : RspC w v (serveL [eA] qB)) : ∃ A1 c1 A2 c2 A3 c3, v = .agg #[.int .i64 204, .slice A1 1 c1, .slice A2 0 c2, .slice A3 0 c3] ∧ FRow w A1 [(txtB sAllow, txtB sAGH)] := by
  rw [kn20_b] at h
  obtain ⟨A1, c1, A2, c2, A3, c3, rfl, h1, _⟩ := h
  exact ⟨A1, c1, A2, c2, A3, c3, rfl, h1⟩
set_option maxRecDepth 100000 in
set_option maxHeartbeats 8000000 in
theorem known20_any (w : World) (hg : G1 w) : Calls Tryz.prog 13 #[] w fun e w' => e = .returned (.bool true) ∧ Sm No w w' := by
  have HG := Lib.hid hg
  clear hg
  go_enter Tryz.func13, Tryz.ntmps13
  go_wp2_with fail
  obtain ⟨w1, hw1⟩ : ∃ w1, w.alloc (.cells #[.string eA.path, .string eA.type, .string eA.data] 56) = w1 := ⟨_, rfl⟩
  have hw1' := hw1
  unfold eA at hw1'
  dsimp only at hw1'
  rw [hw1']
  have hb1 : Bk w1 w.heap.size 56 #[.string eA.path, .string eA.type, .string eA.data] := by rw [← hw1]; exact Bk.new w _ _
  have hs1 : Sm No w w1 := by rw [← hw1]; exact (Sm.refl No w).alloc _
  have H1 := Lib.hid (And.intro hs1 hb1)
  clear hw1 hw1' hb1 hs1
  refine (snew_any w1 (HG.out.1.no H1.out.1) (some ⟨w.heap.size, 0, none⟩) 1 [eA] (rowC_bk H1.out.2) (fun e => by cases e) (by decide) smallA).mono ?_
  rintro e w2 hN
  obtain ⟨s, O, rfl, hS, hs2, _⟩ := (hN.resolve_right (fun h => h.1 kn20_c)).2
  obtain ⟨r, hr, hsl⟩ := hS.router
  have H2 := Lib.hid (And.intro (H1.out.1.trans hs2 (fun _ _ h => h)) hS)
  clear hN hS hs2
  go_wp2_with fail
  refine (serve_own HG.out H2.out.1 H2.out.2 kn20_c smallA qA none 0 none 0 (rq0_ok w2 qA (by decide) (by decide) (by decide) rfl rfl)).mono ?_
  rintro e w3 ⟨v, rfl, hv, hs3⟩
  obtain ⟨A1, c1, A2, c2, A3, c3, rfl, f3⟩ := kn20_ra hv.rc
  obtain ⟨w4, hw4⟩ : ∃ w4, w3.alloc (.cells #[.int .i64 200, .slice A1 1 c1, .slice A2 17 c2, .slice A3 2 c3] 52) = w4 := ⟨_, rfl⟩
  have hb4 : Bk w4 w3.heap.size 52 #[.int .i64 200, .slice A1 1 c1, .slice A2 17 c2, .slice A3 2 c3] := by rw [← hw4]; exact Bk.new w3 _ _
  have hs4 : Sm No w3 w4 := by rw [← hw4]; exact (Sm.refl No w3).alloc _
  have hs24 := hs3.trans hs4 (fun _ _ h => h)
  have H4 := Lib.hid (And.intro (H2.out.1.trans hs24 (fun _ _ h => h)) (And.intro (H2.out.2.no hs24) (And.intro hb4 (f3.no hs4))))
  have HW4 := Lib.hid hw4
  clear hv hs3 hb4 hs4 hs24 f3 hw4 hr hsl
  go_wp2_with fail
  rw [HW4.out]
  refine (serve_own HG.out H4.out.1 H4.out.2.1 kn20_c smallA qB none 0 none 0 (rq0_ok w4 qB (by decide) (by decide) (by decide) rfl rfl)).mono ?_
  rintro e w5 ⟨v, rfl, hv, hs5⟩
  obtain ⟨B1, d1, B2, d2, B3, d3, rfl, g1⟩ := kn20_rb hv.rc
  have hb5 := H4.out.2.2.1.sm hs5 (fun h => h)
  have r3 := hb5.at 3 (v := .slice A3 2 c3) rfl
  have rl := hb5.lt
  have H5 := Lib.hid (And.intro (H4.out.1.trans hs5 (fun _ _ h => h)) (And.intro (H4.out.2.2.2.no hs5) g1))
  clear hv hs5 hb5 g1
  go_wp2_with fail
  obtain ⟨w6, hw6⟩ : ∃ w6, w5.alloc (.cells #[.int .i64 204, .slice B1 1 d1, .slice B2 0 d2, .slice B3 0 d3] 52) = w6 := ⟨_, rfl⟩
  have hb6 : Bk w6 w5.heap.size 52 #[.int .i64 204, .slice B1 1 d1, .slice B2 0 d2, .slice B3 0 d3] := by rw [← hw6]; exact Bk.new w5 _ _
  have hs6 : Sm No w5 w6 := by rw [← hw6]; exact (Sm.refl No w5).alloc _
  have hz6 : w5.heap.size + 1 = w6.heap.size := by rw [← hw6]; simp
  rw [hw6, hz6]
  have H6 := Lib.hid (And.intro hb6 hs6)
  clear hw6 hb6 hs6 r3 rl hz6
  have hrow : RowC (w6.alloc (.cells #[.int .i64 16, .int .i64 17] 3)) (some ⟨w6.heap.size, 0, none⟩) (intsV [16, 17]) := rowC_bk (cs := #[.int .i64 16, .int .i64 17]) (Bk.new w6 3 _)
  refine (ints20_any (w6.alloc (.cells #[.int .i64 16, .int .i64 17] 3)) A3 (some ⟨w6.heap.size, 0, none⟩) c3 2 [16, 17] (H5.out.2.1.no (H6.out.2.alloc _)) hrow (by decide)).mono ?_
  clear hrow
  rintro e w7 ⟨rfl, hs7⟩
  have hb7 := (H6.out.1.alloc (.cells #[.int .i64 16, .int .i64 17] 3)).sm hs7 (fun h => h)
  have r0 := hb7.at 0 (v := .int .i64 204) rfl
  have r1 := hb7.at 1 (v := .slice B1 1 d1) rfl
  have rl := hb7.lt
  have hs57 := (H6.out.2.alloc (.cells #[.int .i64 16, .int .i64 17] 3)).trans hs7 (fun _ _ h => h)
  have H7 := Lib.hid (And.intro (H5.out.1.trans hs57 (fun _ _ h => h)) (H5.out.2.2.no hs57))
  clear hb7 hs7 hs57
  go_wp2_with fail
  have hrow : FRow (w7.alloc (.cells #[.string ⟨#[65, 108, 108, 111, 119]⟩, .string ⟨#[71, 69, 84, 44, 32, 72, 69, 65, 68]⟩] 65)) (some ⟨w7.heap.size, 0, none⟩) [(txtB sAllow, txtB sAGH)] := fRow_one (a := ⟨#[65, 108, 108, 111, 119]⟩) (b := ⟨#[71, 69, 84, 44, 32, 72, 69, 65, 68]⟩) (Bk.new w7 65 _)
  refine (fields20_any (w7.alloc (.cells #[.string ⟨#[65, 108, 108, 111, 119]⟩, .string ⟨#[71, 69, 84, 44, 32, 72, 69, 65, 68]⟩] 65)) B1 (some ⟨w7.heap.size, 0, none⟩) d1 1 [(txtB sAllow, txtB sAGH)] (H7.out.2.no ((Sm.refl No w7).alloc _)) hrow (by decide)).mono ?_
  clear hrow
  rintro e w8 ⟨rfl, hs8⟩
  have H8 := Lib.hid ((H7.out.1.alloc (.cells #[.string ⟨#[65, 108, 108, 111, 119]⟩, .string ⟨#[71, 69, 84, 44, 32, 72, 69, 65, 68]⟩] 65)).trans hs8 (fun _ _ h => h))
  clear hs8 r0 r1 rl
  go_wp2_with fail
  go_ret
  exact ⟨rfl, H8.out⟩
end Go.Proofs.YtiglfbimijnpcaaGreatDoor

