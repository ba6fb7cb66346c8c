/- The law SiteServes: its walk. -/
import Derived.Test.YtiglfbimijnpcaaGreatDoorQSiteO
import Derived.Test.YtiglfbimijnpcaaGreatDoorQSiteL
namespace Go.Proofs.YtiglfbimijnpcaaGreatDoor
open Go.RowKit Go.Proofs

def SpR (w1 : World) (B : Nat) (v' : Value) (n : Nat) (i : Value) (wr : World) : Prop := ∃ (k : Nat) (xs : List Value), k ≤ n ∧ i = .int .i64 k ∧ ownsU wr B 5 1 v' n xs ∧ Sm (fun b => v'.ownBlock = some b) w1 wr
set_option maxRecDepth 100000 in
set_option maxHeartbeats 4000000 in
/-- spoil: the row's own block, and new ones, may be written. -/
theorem spoil20_any (w : World) (B : Nat) (hB : B ≤ w.heap.size) (v : Value) (l : List UInt8) (hv : OwnB w B 5 v l) (hl : l.length ≤ 1000000) :
    Calls Tryz.prog 21 #[v] w fun e w' => (∃ r, e = .returned r) ∧ Sm (fun b => v.ownBlock = some b) w w' := by
  obtain ⟨A, c, rfl, _⟩ := hv.row
  obtain ⟨n, hn⟩ : ∃ n, l.length = n := ⟨_, rfl⟩
  have hO : ownsU w B 5 1 (.slice A n c) n (byteV l) := by rw [← hn]; exact hv
  rw [hn] at hl ⊢
  have HO := Lib.hid hO
  clear hO hv hn
  go_enter Tryz.func21, Tryz.ntmps21
  go_wp2_with (refine wpList_pushU rfl _ _ 23 5 rfl Tryz.underlying23 _ 1 1 infoU8 rfl (by decide) (by decide) B n _ _ rfl (HO.out.no ((Sm.refl No w).alloc _)) ⟨w.heap.size, 0, none⟩ 1 1 [.int .u8 99] rfl rfl (rowC_bk (Bk.new w _ _)) (by simp [Value.oneCell']) (by omega) (by simp; omega) ?_; intro v' w1 hown1 hs1 hv1; refine RowKit.Hid.out ?_)
  refine Lib.hid ?_
  have hs01 : Sm (fun b => (Value.slice A n c).ownBlock = some b) w w1 := (((Sm.refl No w).alloc (.cells #[.int .u8 99] 5)).any _).trans hs1 (fun _ _ h => h)
  rcases hown1.form with ⟨_, h0, _⟩ | ⟨g, cap, rfl, hBg, _, _, _, _, _⟩
  · omega
  have hg1 : (Value.slice A n c).ownBlock = some g ∨ w.heap.size ≤ g := by
    rcases hv1 with h | h
    · exact Or.inl h.symm
    · injection h with h
      have h : g = (w.alloc (.cells #[.int .u8 99] 5)).heap.size := h
      exact Or.inr (by rw [h]; simp)
  have H1 := Lib.hid (And.intro hs01 (And.intro hown1 hg1))
  clear hs01 hown1 hs1 hv1 hg1
  go_wp2_with fail
  go_loopw [3] (fun i wr => SpR w1 B (.slice (some ⟨g, 0, none⟩) (n + 1) cap) (n + 1) i wr) (fun i _ => n + 1 - (intOf i).toNat)
  case atStart => exact ⟨0, _, Nat.zero_le _, rfl, H1.out.2.1, Sm.refl _ _⟩
  case round =>
    obtain ⟨k, xs, hk, rfl, hO, hs⟩ := hrel
    have HS := Lib.hid (And.intro hO hs)
    by_cases hlt : k < n + 1
    · rcases hO.form with ⟨_, h0, _⟩ | ⟨g', cap', e, _, hb, _, _, hcell, hfz⟩
      · omega
      injection e with e
      injection e with e
      injection e with e
      subst e
      have hxl : xs.length = n + 1 := by rw [hO.1]; omega
      have r0 := hcell k _ (List.getElem?_eq_getElem (by omega))
      have f0 := hfz k (by omega)
      have k1 : (0 : Int) ≤ (k : Int) := by omega
      have k2 : (k : Int) < (n : Int) + 1 := by omega
      clear hO hs hcell hfz
      go_wp2_with fail
      exact ⟨⟨k + 1, _, by omega, by go_num, HS.out.1.setAt rfl k (by omega) _, HS.out.2.setS rfl k _⟩, by simp [intOf]; omega⟩
    · have k2 : ¬ (k : Int) < (n : Int) + 1 := by omega
      clear hO hs
      go_wp2_with fail
      go_end0
      exact ⟨⟨_, rfl⟩, H1.out.1.trans HS.out.2 (fun b hb e => by
        have e : some g = some b := e
        injection e with e
        rcases H1.out.2.2 with h | h
        · rw [← e]; exact h
        · omega)⟩
theorem ArgR.no {w w' : World} {q : Rq} {A : Option Addr} {c : Nat} {B : Option Addr} {d : Nat} (h : ArgR w q A c B d) (hs : Sm No w w') : ArgR w' q A c B d := ⟨h.1.no hs, h.2.1.no hs, h.2.2⟩
theorem rq_ok {w w' : World} {T : List Ent} {q : Rq} {A : Option Addr} {c : Nat} {B : Option Addr} {d : Nat} (h : ArgR w q A c B d) (hl : Light20 T q) (hs : Sm No w w') : RqOk w' q A c B d := by
  obtain ⟨hF, hB, _⟩ := h
  obtain ⟨l1, l2, _, _, l5, l6⟩ := hl
  exact ⟨hF.1.no hs, (fun e => ⟨by have := hF.2.1; have := hF.2.2.2.2 e; omega, hF.2.2.2.2 e⟩), hB.1.no hs, (fun e => ⟨by have := hB.2.1; have := hB.2.2.2 e; omega, hB.2.2.2 e⟩), by omega, by omega, by omega, (fun x hx => ⟨by have := (l6 x hx).1; omega, by have := (l6 x hx).2; omega⟩), by omega, by omega⟩
theorem own0 {w : World} {B n size : Nat} {t : TypeId} {v : Value} {xs : List Value} (h : w.ownsRow B t size v (0 + n) ([] ++ xs)) : w.ownsRow B t size v n xs := by
  rw [Nat.zero_add, List.nil_append] at h
  exact h
theorem fresh_empty {w w' : World} {t : TypeId} (h : Sm (fun b => (Value.slice (some ⟨w.heap.size, 0, none⟩) 0 0).ownBlock = some b) (w.alloc (.cells #[] t)) w') : Sm No w w' :=
  ((Sm.refl No w).alloc (.cells #[] t)).fresh h (fun b hb => by
    have hb : some w.heap.size = some b := hb
    injection hb with hb
    omega)
theorem rq_okB {w : World} {q : Rq} {A B Ab : Option Addr} {c d cb : Nat} (h : RqOk w q A c B d) (hB : RowC w Ab (byteV q.body)) (hn : Ab = none → q.body.length = 0 ∧ cb = 0) : RqOk w q A c Ab cb := ⟨h.1, h.2.1, hB, hn, h.2.2.2.2⟩
theorem canned_small {c : Int} (h0 : 0 ≤ c) (h1 : c ≤ 1000) {more : List Fld} (hm : more.length ≤ 10) : SmallR (cannedL c more) := by
  have h2 := itoa_len h0 (by omega)
  have h3 := phraseT_len c
  unfold cannedL
  split
  · exact ⟨(show more.length ≤ 1000000 by omega), Nat.zero_le _, Nat.zero_le _⟩
  · refine ⟨(show (ctOf sPlain :: more).length ≤ 1000000 by rw [List.length_cons]; omega), ?_, Nat.zero_le _⟩
    show (Lib.itoa c ++ 32 :: (phraseT c ++ [10])).length ≤ 1000000
    rw [List.length_append, List.length_cons, List.length_append]
    simp only [List.length_cons, List.length_nil]
    omega
theorem okL_small {k : ByteArray} {l : List UInt8} (h : l.length ≤ 5000) : SmallR (okL k l) := ⟨(show 1 ≤ 1000000 by decide), (show l.length ≤ 1000000 by omega), Nat.zero_le _⟩
theorem serve_small {T : List Ent} {q : Rq} (h : Light20 T q) : SmallR (serveL T q) := by
  obtain ⟨h1, _, _, h4, _⟩ := h
  have hd : ∀ x ∈ T, (txt x.data).length ≤ 5000 := fun x hx => by rw [txt_len]; exact (h4 x hx).2.2
  unfold serveL
  split
  · exact canned_small (by decide) (by decide) (Nat.le_of_ble_eq_true rfl)
  split
  · exact canned_small (by decide) (by decide) (Nat.zero_le _)
  split
  · exact canned_small (by decide) (by decide) (Nat.zero_le _)
  split
  · split
    · exact canned_small (by decide) (by decide) (Nat.le_of_ble_eq_true rfl)
    · exact canned_small (by decide) (by decide) (Nat.le_of_ble_eq_true rfl)
  unfold idA
  split
  · exact okL_small h1
  split
  · unfold keyA
    split
    · rename_i x hx
      exact okL_small (hd x (List.mem_of_find?_eq_some hx))
    · exact canned_small (by decide) (by decide) (Nat.zero_le _)
  split
  · exact okL_small (by decide)
  split
  · rename_i x hx
    have hx := List.mem_of_getElem? hx
    exact ⟨(show 1 ≤ 1000000 by decide), (show (txt x.data).length ≤ 1000000 by have := hd x hx; omega), entA_parts x (by have := hd x hx; rw [txt_len] at this; exact this)⟩
  · exact canned_small (by decide) (by decide) (Nat.zero_le _)
theorem IsSiteX.first {w : World} {O : Nat → Prop} {x : Nat} {T : List Ent} (h : IsSiteX w O x T) : ∃ AL cL nL, w.cell? ⟨x, 0, none⟩ = some (.slice AL nL cL) ∧ (routesL T).length = nL ∧ x < w.heap.size := by
  obtain ⟨Q, vT, ⟨v, l, hT⟩, _⟩ := h
  obtain ⟨A, c, rfl⟩ := hT.form
  exact ⟨A, c, _, hT.1.at 0 (by simp), rfl, hT.1.lt⟩
theorem body_row {w : World} {q qr : Rq} {A : Option Addr} {c : Nat} {B : Option Addr} {d : Nat} (h : ArgR w qr A c B d) (e : q = qr) : RowC w B (byteV q.body) := by rw [e]; exact h.2.1.1
theorem body_none {w : World} {q qr : Rq} {A : Option Addr} {c : Nat} {B : Option Addr} {d : Nat} (h : ArgR w qr A c B d) (e : q = qr) : B = none → q.body.length = 0 ∧ d = 0 := by
  rw [e]
  exact fun e => ⟨by have := h.2.1.2.1; have := h.2.1.2.2.2 e; omega, h.2.1.2.2.2 e⟩
set_option maxRecDepth 100000 in
set_option maxHeartbeats 16000000 in
theorem serves20_any (w : World) (hg : G1 w) (At : Option Addr) (T : List Ent) (ct : Nat) (q : Rq) (A : Option Addr) (c : Nat) (B : Option Addr) (d : Nat) (hT : ArgE w At T ct) (hq : ArgR w q A c B d) :
    Calls Tryz.prog 7 #[.slice At T.length ct, reqV q A c B d] w fun e w' => e = .returned (.bool true) ∧ Sm No w w' := by
  obtain ⟨qr, hqr⟩ : ∃ qr, q = qr := ⟨_, rfl⟩
  have HQ := Lib.hid hq
  rw [hqr] at HQ
  have HQR := Lib.hid hqr
  obtain ⟨m, form, host, path, query, minor, fs, body, close, expect⟩ := q
  have HT := Lib.hid hT
  have HG := Lib.hid hg
  have htl : (T.length : Int) ≤ 4398046511104 := by have := hT.2.1; have := hT.2.2.1; omega
  have hqs := hq.2.2
  have hbl0 : (body.length : Int) ≤ 140737488351232 := by have h1 := hq.2.1.2.1; have h2 := hq.2.1.2.2.1; dsimp only at h1 h2; omega
  unfold reqV
  dsimp only at hqs ⊢
  clear hT hg hq hqr hqs
  go_enter Tryz.func7, Tryz.ntmps7
  go_wp2_with fail
  obtain ⟨b3, hb3⟩ : ∃ b3, w.heap.size = b3 := ⟨_, rfl⟩
  obtain ⟨w1, hw1⟩ : ∃ w1, w.alloc (.cells #[.string m, .int .i64 form, .string host, .string path, .string query, .int .i64 minor, .slice A fs.length c, .slice B body.length d, .bool close, .bool expect] 29) = w1 := ⟨_, rfl⟩
  have hs1 : Sm No w w1 := by rw [← hw1]; exact (Sm.refl No w).alloc _
  have hz1 : Bk w1 b3 29 #[.string m, .int .i64 form, .string host, .string path, .string query, .int .i64 minor, .slice A fs.length c, .slice B body.length d, .bool close, .bool expect] := by rw [← hw1, ← hb3]; exact Bk.new w _ _
  rw [hw1, hb3]
  have H1 := Lib.hid (And.intro hs1 hz1)
  have HB3 := Lib.hid hb3
  clear hs1 hz1 hw1 hb3
  have HHv := Lib.hid (heavy20_any w1 At ct T (HT.out.no H1.out.1) qr A c B d (HQ.out.no H1.out.1))
  rw [← HQR.out] at HHv
  unfold reqV at HHv
  refine HHv.out.mono ?_
  rintro e w2 ⟨b, rfl, hs2, hL⟩
  rw [HQR.out] at hL
  have hz2 := H1.out.2.sm hs2 (fun h => h)
  have H2 := Lib.hid (And.intro (H1.out.1.trans hs2 (fun _ _ h => h)) (And.intro hz2 hL))
  clear hs2 hz2 hL HHv
  cases b with
  | true =>
    go_wp2_with fail
    go_ret
    exact ⟨rfl, H2.out.1⟩
  | false =>
    have hL := H2.out.2.2 rfl
    have hsm := light_small hL
    have hl1 : T.length ≤ 1000 := hL.2.2.1
    have hb6 : body.length ≤ 1000000 := by have h := hL.1; rw [← HQR.out] at h; dsimp only at h; omega
    have HL := Lib.hid (And.intro hL hsm)
    clear hL hsm
    go_wp2_with (refine wpList_push_opt rfl _ _ 22 56 rfl Tryz.underlying22 _ 3 48 infoEnt rfl (by decide) (by decide) w2.heap.size 0 _ [] rfl (own_empty w2 _ _ (Nat.le_refl _)) At T.length ct (entCells T) rfl (fun e => ⟨by have := HT.out.2.1; have := HT.out.2.2.2.2 e; omega, HT.out.2.2.2.2 e⟩) (entCells_len T) ((HT.out.1.no H2.out.1).no ((Sm.refl No w2).alloc _)) (entCells_one T) (by omega) (by simp) ?_; intro vt w3 hown hs3 _; refine RowKit.Hid.out ?_)
    refine Lib.hid ?_
    have hown := own0 hown
    obtain ⟨Au, cu, rfl, hru, hcu, hnu⟩ := own_rowC hown
    have hs23 : Sm No w2 w3 := ((Sm.refl No w2).alloc (.cells #[] 56)).fresh hs3 (fun b hb => by
      have hb : some w2.heap.size = some b := hb
      injection hb with hb
      omega)
    have H3 := Lib.hid (And.intro (H2.out.1.trans hs23 (fun _ _ h => h)) (And.intro (H2.out.2.1.sm hs23 (fun h => h)) (And.intro hru (And.intro hcu hnu))))
    clear hown hs3 hs23 hru hcu hnu
    go_wp2_with fail
    refine (snew_any w3 (HG.out.1.no H3.out.1) Au cu T H3.out.2.2.1 (fun e => ⟨by have := H3.out.2.2.2.1; have := H3.out.2.2.2.2 e; omega, H3.out.2.2.2.2 e⟩) (by omega) HL.out.2).mono ?_
    rintro e w4 hN
    obtain ⟨sc, hsc⟩ : ∃ sc, siteC T = sc := ⟨_, rfl⟩
    unfold NewPost at hN
    have HX := Lib.hid (fun W hR => snewx_any W At ct T hR (fun e => ⟨by have := HT.out.2.1; have := HT.out.2.2.2.2 e; omega, HT.out.2.2.2.2 e⟩) (by omega) HL.out.2)
    unfold NewPostX at HX
    rw [hsc] at hN HX
    by_cases hc0 : sc = 0
    · subst hc0
      obtain ⟨s, O, rfl, hS, hs4, _⟩ := (hN.resolve_right (fun h => h.1 rfl)).2
      have H4 := Lib.hid (And.intro (H3.out.1.trans hs4 (fun _ _ h => h)) (And.intro (H3.out.2.1.sm hs4 (fun h => h)) hS))
      have HSC := Lib.hid hsc
      clear hN hS hs4 hsc
      go_wp2_with fail
      refine (HX.out w4 (HT.out.1.no H4.out.1)).mono ?_
      rintro e w5 hN
      obtain ⟨x, Q, rfl, hXs, hs5, _⟩ := (hN.resolve_right (fun h => h.1 rfl)).2
      have hz5 := H4.out.2.1.sm hs5 (fun h => h)
      have z7 := hz5.at 7 (v := .slice B body.length d) rfl
      have hl3 := hz5.lt
      have H5 := Lib.hid (And.intro (H4.out.1.trans hs5 (fun _ _ h => h)) (And.intro hz5 (And.intro (H4.out.2.2.no hs5) hXs)))
      clear hN hs5 HX hz5 hXs
      go_wp2_with (refine wpList_push_opt rfl _ _ 23 5 rfl Tryz.underlying23 _ 1 1 infoU8 rfl (by decide) (by decide) w5.heap.size 0 _ [] rfl (own_empty w5 _ _ (Nat.le_refl _)) B body.length d (byteV body) rfl (body_none HQ.out HQR.out) (by rw [byteV_len, Nat.mul_one]) (((body_row HQ.out HQR.out).no H5.out.1).no ((Sm.refl No w5).alloc _)) (byteV_one body) (by omega) (by simp) ?_; intro vb w6 hown hs6 _; obtain ⟨Ab, cb, rfl, hrb, hcb, hnb⟩ := own_rowC (own0 hown); have hs56 : Sm No w5 w6 := fresh_empty hs6; have hz6 := H5.out.2.1.sm hs56 (fun h => h); have z0 := hz6.at 0 (v := .string m) rfl; have z1 := hz6.at 1 (v := .int .i64 form) rfl; have z2 := hz6.at 2 (v := .string host) rfl; have z3 := hz6.at 3 (v := .string path) rfl; have z4 := hz6.at 4 (v := .string query) rfl; have z5 := hz6.at 5 (v := .int .i64 minor) rfl; have z6 := hz6.at 6 (v := .slice A fs.length c) rfl; have z7b := hz6.at 7 (v := .slice B body.length d) rfl; have z8 := hz6.at 8 (v := .bool close) rfl; have z9 := hz6.at 9 (v := .bool expect) rfl; have hl36 := hz6.lt; have H6 := Lib.hid (And.intro hs56 (And.intro hz6 (And.intro hrb (And.intro hcb hnb)))); refine RowKit.Hid.out ?_)
      refine Lib.hid ?_
      clear hown hs6 hrb hcb hnb hs56 hz6
      go_wp2_with fail
      obtain ⟨w7, hw7⟩ : ∃ w7, w6.alloc (.cells #[.string m, .int .i64 form, .string host, .string path, .string query, .int .i64 minor, .slice A fs.length c, .slice Ab body.length cb, .bool close, .bool expect] 29) = w7 := ⟨_, rfl⟩
      have hs67 : Sm No w6 w7 := by rw [← hw7]; exact (Sm.refl No w6).alloc _
      rw [hw7]
      have hs57 := H6.out.1.trans hs67 (fun _ _ h => h)
      have H7 := Lib.hid (And.intro (H5.out.1.trans hs57 (fun _ _ h => h)) (And.intro hs57 (H6.out.2.2.1.no hs67)))
      clear hw7 hs67 hs57
      obtain ⟨R, hRR⟩ : ∃ R, serveL T qr = R := ⟨_, rfl⟩
      have HRR := Lib.hid hRR
      have HSR := Lib.hid (hRR ▸ serve_small HL.out.1)
      clear hRR
      have HSv := Lib.hid (serve_own HG.out H7.out.1 (H5.out.2.2.1.no H7.out.2.1) HSC.out HL.out.2 qr A c Ab cb (rq_okB (rq_ok HQ.out HL.out.1 H7.out.1) (HQR.out ▸ H7.out.2.2) (HQR.out ▸ (fun e => ⟨by show body.length = 0; have := H6.out.2.2.2.1; have := H6.out.2.2.2.2 e; omega, H6.out.2.2.2.2 e⟩))))
      rw [← HQR.out] at HSv
      unfold reqV at HSv
      refine HSv.out.mono ?_
      rintro e w8 ⟨v1, rfl, hv, hs8⟩
      rw [HQR.out, HRR.out] at hv
      obtain ⟨vF, vB, vP, rfl, hFF, hB1, hP⟩ := hv
      obtain ⟨A1, c1, rfl, _⟩ := hFF.row
      obtain ⟨A2, c2, rfl, _⟩ := hB1.row
      obtain ⟨A3, c3, rfl, _⟩ := hP.row
      obtain ⟨W, hW⟩ : ∃ W, w8.alloc (.cells #[.int .i64 R.st, .slice A1 R.fs.length c1, .slice A2 R.body.length c2, .slice A3 R.parts.length c3] 52) = W := ⟨_, rfl⟩
      obtain ⟨b12, hb12⟩ : ∃ b12, w8.heap.size = b12 := ⟨_, rfl⟩
      have hs8W : Sm No w8 W := by rw [← hW]; exact (Sm.refl No w8).alloc _
      have ha : Bk W b12 52 #[.int .i64 R.st, .slice A1 R.fs.length c1, .slice A2 R.body.length c2, .slice A3 R.parts.length c3] := by rw [← hW, ← hb12]; exact Bk.new w8 _ _
      have hs7W := hs8.trans hs8W (fun _ _ h => h)
      have hs5W := H7.out.2.1.trans hs7W (fun _ _ h => h)
      have hz := H5.out.2.1.sm hs5W (fun h => h)
      have HW := Lib.hid (And.intro (H7.out.1.trans hs7W (fun _ _ h => h)) (And.intro hs5W (And.intro (hB1.no hs8W) (Nat.le_trans H7.out.2.1.size (Nat.le_refl w7.heap.size)))))
      have HXs := Lib.hid (H5.out.2.2.2.no hs5W)
      have HA1 := Lib.hid ((show RspV w8 w7.heap.size (.agg #[.int .i64 R.st, .slice A1 R.fs.length c1, .slice A2 R.body.length c2, .slice A3 R.parts.length c3]) R from ⟨_, _, _, rfl, hFF, hB1, hP⟩).rc.no hs8W)
      have HVb := Lib.hid (H7.out.2.2.no hs7W)
      have HWW := Lib.hid (And.intro hW hb12)
      have HSz := Lib.hid hs7W.size
      have HBo := Lib.hid (body_row HQ.out HQR.out)
      have HRQ := Lib.hid (fun (W' : World) (h : Sm No w W') => show RqOk W' ⟨m, form, host, path, query, minor, fs, body, close, expect⟩ A c B d from by rw [HQR.out]; exact rq_ok HQ.out HL.out.1 h)
      have HRR2 := Lib.hid (show serveL T ⟨m, form, host, path, query, minor, fs, body, close, expect⟩ = R from by rw [HQR.out]; exact HRR.out)
      have HRV := Lib.hid (fun (W' : World) (h : Sm No W W') => show Calls Tryz.prog 20 #[.pointer (some ⟨x, 0, none⟩), .agg #[.string m, .int .i64 form, .string host, .string path, .string query, .int .i64 minor, .slice A fs.length c, .slice B body.length d, .bool close, .bool expect]] W' (AnsPost W' W'.heap.size R) from HRR2.out ▸ rserve_any W' (HG.out.no (HW.out.1.trans h (fun _ _ h => h))) Q x T (HXs.out.no h) HSC.out HL.out.2 ⟨m, form, host, path, query, minor, fs, body, close, expect⟩ A c B d (HRQ.out W' (HW.out.1.trans h (fun _ _ h => h))))
      clear HSv hFF hB1 hP hs8 hs8W hs7W hs5W hW hb12
      clear z0 z1 z2 z3 z4 z5 z6 z7 z7b z8 z9 hl3 hl36
      go_wp2_with fail
      rw [HWW.out.1, HWW.out.2]
      have z0 := hz.at 0 (v := .string m) rfl
      have z1 := hz.at 1 (v := .int .i64 form) rfl
      have z2 := hz.at 2 (v := .string host) rfl
      have z3 := hz.at 3 (v := .string path) rfl
      have z4 := hz.at 4 (v := .string query) rfl
      have z5 := hz.at 5 (v := .int .i64 minor) rfl
      have z6 := hz.at 6 (v := .slice A fs.length c) rfl
      have z7 := hz.at 7 (v := .slice B body.length d) rfl
      have z8 := hz.at 8 (v := .bool close) rfl
      have z9 := hz.at 9 (v := .bool expect) rfl
      have hl3 := hz.lt
      have a0 := ha.at 0 (v := .int .i64 R.st) rfl
      have a1 := ha.at 1 (v := .slice A1 R.fs.length c1) rfl
      have a2 := ha.at 2 (v := .slice A2 R.body.length c2) rfl
      have a3 := ha.at 3 (v := .slice A3 R.parts.length c3) rfl
      have hl12 := ha.lt
      have hc := (And.intro z0 (And.intro z1 (And.intro z2 (And.intro z3 (And.intro z4 (And.intro z5 (And.intro z6 (And.intro z7 (And.intro z8 (And.intro z9 (And.intro a0 (And.intro a1 (And.intro a2 a3)))))))))))))
      have hsr := Sm.refl No W
      clear hz ha
      go_region_held3 (fun w' => w'.cell? ⟨b3, 0, none⟩ = some (.string m) ∧ w'.cell? ⟨b3, 1, none⟩ = some (.int .i64 form) ∧ w'.cell? ⟨b3, 2, none⟩ = some (.string host) ∧ w'.cell? ⟨b3, 3, none⟩ = some (.string path) ∧ w'.cell? ⟨b3, 4, none⟩ = some (.string query) ∧ w'.cell? ⟨b3, 5, none⟩ = some (.int .i64 minor) ∧ w'.cell? ⟨b3, 6, none⟩ = some (.slice A fs.length c) ∧ w'.cell? ⟨b3, 7, none⟩ = some (.slice B body.length d) ∧ w'.cell? ⟨b3, 8, none⟩ = some (.bool close) ∧ w'.cell? ⟨b3, 9, none⟩ = some (.bool expect) ∧ w'.cell? ⟨b12, 0, none⟩ = some (.int .i64 R.st) ∧ w'.cell? ⟨b12, 1, none⟩ = some (.slice A1 R.fs.length c1) ∧ w'.cell? ⟨b12, 2, none⟩ = some (.slice A2 R.body.length c2) ∧ w'.cell? ⟨b12, 3, none⟩ = some (.slice A3 R.parts.length c3)) (first | exact hc | exact hc15 | exact hc16 | exact hc17 | go_keep)
        (first
          | (go_at_call 20; (with_reducible refine (HRV.out _ (by first | exact hsr | exact hsr.drew | exact hsr.drew.drew | exact hsr.drew.drew.drew)).mono ?_); rintro e w15 ⟨v2, rfl, hv2, hs15⟩; have hsa := (show Sm No W _ from (by first | exact hsr | exact hsr.drew | exact hsr.drew.drew | exact hsr.drew.drew.drew)).trans hs15 (fun _ _ h => h); have hv2 := hv2.rc; obtain ⟨E1, e1, E2, e2, E3, e3, rfl, _⟩ := id hv2; have hc15 := (And.intro (hsa.cell hl3 z0) (And.intro (hsa.cell hl3 z1) (And.intro (hsa.cell hl3 z2) (And.intro (hsa.cell hl3 z3) (And.intro (hsa.cell hl3 z4) (And.intro (hsa.cell hl3 z5) (And.intro (hsa.cell hl3 z6) (And.intro (hsa.cell hl3 z7) (And.intro (hsa.cell hl3 z8) (And.intro (hsa.cell hl3 z9) (And.intro (hsa.cell hl12 a0) (And.intro (hsa.cell hl12 a1) (And.intro (hsa.cell hl12 a2) (hsa.cell hl12 a3)))))))))))))))
          | (go_at_call 16; (with_reducible refine (response20_any _ _ _ R (HA1.out.no (by first | exact hsa | exact hsa.drew | exact hsa.drew.drew | exact hsa.drew.drew.drew)) (hv2.no (by first | exact Sm.refl No w15 | exact (Sm.refl No w15).drew | exact (Sm.refl No w15).drew.drew | exact (Sm.refl No w15).drew.drew.drew)) HSR.out).mono ?_); rintro e w16 ⟨rfl, hs16⟩; have hsb := (show Sm No W _ from (by first | exact hsa | exact hsa.drew | exact hsa.drew.drew | exact hsa.drew.drew.drew)).trans hs16 (fun _ _ h => h); have hc16 := (And.intro (hsb.cell hl3 z0) (And.intro (hsb.cell hl3 z1) (And.intro (hsb.cell hl3 z2) (And.intro (hsb.cell hl3 z3) (And.intro (hsb.cell hl3 z4) (And.intro (hsb.cell hl3 z5) (And.intro (hsb.cell hl3 z6) (And.intro (hsb.cell hl3 z7) (And.intro (hsb.cell hl3 z8) (And.intro (hsb.cell hl3 z9) (And.intro (hsb.cell hl12 a0) (And.intro (hsb.cell hl12 a1) (And.intro (hsb.cell hl12 a2) (hsb.cell hl12 a3)))))))))))))))
          | (go_at_call 17; (with_reducible refine (same20_any _ Ab B cb d body (HVb.out.no (by first | exact hsb | exact hsb.drew | exact hsb.drew.drew | exact hsb.drew.drew.drew)) (HBo.out.no (HW.out.1.trans (by first | exact hsb | exact hsb.drew | exact hsb.drew.drew | exact hsb.drew.drew.drew) (fun _ _ h => h))) hb6).mono ?_); rintro e w17 ⟨rfl, hs17⟩; have hsd := (show Sm No W _ from (by first | exact hsb | exact hsb.drew | exact hsb.drew.drew | exact hsb.drew.drew.drew)).trans hs17 (fun _ _ h => h); have hc17 := (And.intro (hsd.cell hl3 z0) (And.intro (hsd.cell hl3 z1) (And.intro (hsd.cell hl3 z2) (And.intro (hsd.cell hl3 z3) (And.intro (hsd.cell hl3 z4) (And.intro (hsd.cell hl3 z5) (And.intro (hsd.cell hl3 z6) (And.intro (hsd.cell hl3 z7) (And.intro (hsd.cell hl3 z8) (And.intro (hsd.cell hl3 z9) (And.intro (hsd.cell hl12 a0) (And.intro (hsd.cell hl12 a1) (And.intro (hsd.cell hl12 a2) (hsd.cell hl12 a3))))))))))))))))
      all_goals
        have a2 := hsd.cell hl12 a2
        have hl12 := Nat.lt_of_lt_of_le hl12 hsd.size
        have HC := Lib.hid (And.intro (HW.out.1.trans hsd (fun _ _ h => h)) (And.intro (HW.out.2.1.trans hsd (fun _ _ h => h)) (And.intro (HW.out.2.2.1.no hsd) (Nat.le_trans HSz.out hsd.size))))
        clear hsd hs17 hc hc15 hc16 hc17 hsr hsa hsb hs15 hs16 hv2 z0 z1 z2 z3 z4 z5 z6 z7 z8 z9 a0 a1 a3 hl3
        go_wp2_with fail
        refine (spoil20_any w17 w7.heap.size HC.out.2.2.2 _ R.body HC.out.2.2.1 HSR.out.2.1).mono ?_
        rintro e w18 ⟨⟨rr, rfl⟩, hs18⟩
        have hs518 : Sm No w5 w18 := HC.out.2.1.fresh hs18 (fun b e => Nat.le_trans HW.out.2.2.2 (HC.out.2.2.1.lt b e).1)
        have HD := Lib.hid (And.intro (H5.out.1.trans hs518 (fun _ _ h => h)) hs518)
        have hz := H5.out.2.1.sm hs518 (fun h => h)
        have z0 := hz.at 0 (v := .string m) rfl
        have z1 := hz.at 1 (v := .int .i64 form) rfl
        have z2 := hz.at 2 (v := .string host) rfl
        have z3 := hz.at 3 (v := .string path) rfl
        have z4 := hz.at 4 (v := .string query) rfl
        have z5 := hz.at 5 (v := .int .i64 minor) rfl
        have z6 := hz.at 6 (v := .slice A fs.length c) rfl
        have z7 := hz.at 7 (v := .slice B body.length d) rfl
        have z8 := hz.at 8 (v := .bool close) rfl
        have z9 := hz.at 9 (v := .bool expect) rfl
        have hl3 := hz.lt
        obtain ⟨Q1, r, vT, hR1, hS1, _⟩ := H5.out.2.2.1.no hs518
        have sc0 := hS1.at 0 (v := .pointer (some ⟨r, 0, none⟩)) rfl
        have hls := hS1.lt
        obtain ⟨AL, cL, nL, xc0, hnL, hlx⟩ := (H5.out.2.2.2.no hs518).first
        have HLn := Lib.hid (fun (W' : World) (h : Sm No w18 W') => show Calls Tryz.prog 22 #[.pointer (some ⟨r, 0, none⟩)] W' (fun e w' => e = .returned (.int .i64 nL) ∧ w' = W') from hnL ▸ len19_any W' Q1 r (routesL T) (hR1.no h))
        have HSV := Lib.hid (fun (W' : World) (h : Sm No w18 W') => show Calls Tryz.prog 15 #[.pointer (some ⟨s, 0, none⟩), .agg #[.string m, .int .i64 form, .string host, .string path, .string query, .int .i64 minor, .slice A fs.length c, .slice B body.length d, .bool close, .bool expect]] W' (AnsPost W' W'.heap.size R) from HRR2.out ▸ serve_own HG.out (HD.out.1.trans h (fun _ _ h => h)) (H5.out.2.2.1.no (HD.out.2.trans h (fun _ _ h => h))) HSC.out HL.out.2 ⟨m, form, host, path, query, minor, fs, body, close, expect⟩ A c B d (HRQ.out W' (HD.out.1.trans h (fun _ _ h => h))))
        have HRV2 := Lib.hid (fun (W' : World) (h : Sm No w18 W') => show Calls Tryz.prog 20 #[.pointer (some ⟨x, 0, none⟩), .agg #[.string m, .int .i64 form, .string host, .string path, .string query, .int .i64 minor, .slice A fs.length c, .slice B body.length d, .bool close, .bool expect]] W' (AnsPost W' W'.heap.size R) from HRR2.out ▸ rserve_any W' (HG.out.no (HD.out.1.trans h (fun _ _ h => h))) Q x T (H5.out.2.2.2.no (HD.out.2.trans h (fun _ _ h => h))) HSC.out HL.out.2 ⟨m, form, host, path, query, minor, fs, body, close, expect⟩ A c B d (HRQ.out W' (HD.out.1.trans h (fun _ _ h => h))))
        have hc := (And.intro z0 (And.intro z1 (And.intro z2 (And.intro z3 (And.intro z4 (And.intro z5 (And.intro z6 (And.intro z7 (And.intro z8 (And.intro z9 (And.intro sc0 xc0)))))))))))
        have hsr := Sm.refl No w18
        clear hz hs18 hs518 hR1 hS1 a2 hl12 hnL HRV
        go_wp2_with fail
        go_region_held3 (fun w' => w'.cell? ⟨b3, 0, none⟩ = some (.string m) ∧ w'.cell? ⟨b3, 1, none⟩ = some (.int .i64 form) ∧ w'.cell? ⟨b3, 2, none⟩ = some (.string host) ∧ w'.cell? ⟨b3, 3, none⟩ = some (.string path) ∧ w'.cell? ⟨b3, 4, none⟩ = some (.string query) ∧ w'.cell? ⟨b3, 5, none⟩ = some (.int .i64 minor) ∧ w'.cell? ⟨b3, 6, none⟩ = some (.slice A fs.length c) ∧ w'.cell? ⟨b3, 7, none⟩ = some (.slice B body.length d) ∧ w'.cell? ⟨b3, 8, none⟩ = some (.bool close) ∧ w'.cell? ⟨b3, 9, none⟩ = some (.bool expect) ∧ w'.cell? ⟨s, 0, none⟩ = some (.pointer (some ⟨r, 0, none⟩)) ∧ w'.cell? ⟨x, 0, none⟩ = some (.slice AL nL cL)) (first | exact hc | exact hcS | exact hcX | exact hcR | exact hcK | go_keep)
          (first
            | (go_at_call 15; (with_reducible refine (HSV.out _ (by first | exact hsr | exact hsr.drew | exact hsr.drew.drew | exact hsr.drew.drew.drew)).mono ?_); rintro e wS ⟨vS, rfl, hvS, hsS⟩; have hsSr := (show Sm No w18 _ from (by first | exact hsr | exact hsr.drew | exact hsr.drew.drew | exact hsr.drew.drew.drew)).trans hsS (fun _ _ h => h); have hvS := hvS.rc; obtain ⟨E1, e1, E2, e2, E3, e3, rfl, _⟩ := id hvS; have hcS := (And.intro (hsSr.cell hl3 z0) (And.intro (hsSr.cell hl3 z1) (And.intro (hsSr.cell hl3 z2) (And.intro (hsSr.cell hl3 z3) (And.intro (hsSr.cell hl3 z4) (And.intro (hsSr.cell hl3 z5) (And.intro (hsSr.cell hl3 z6) (And.intro (hsSr.cell hl3 z7) (And.intro (hsSr.cell hl3 z8) (And.intro (hsSr.cell hl3 z9) (And.intro (hsSr.cell hls sc0) (hsSr.cell hlx xc0)))))))))))))
            | (go_at_call 20; (with_reducible refine (HRV2.out _ (by first | exact hsr | exact hsr.drew | exact hsr.drew.drew | exact hsr.drew.drew.drew)).mono ?_); rintro e wX ⟨vX, rfl, hvX, hsX⟩; have hsXr := (show Sm No w18 _ from (by first | exact hsr | exact hsr.drew | exact hsr.drew.drew | exact hsr.drew.drew.drew)).trans hsX (fun _ _ h => h); have hvX := hvX.rc; obtain ⟨F1, f1, F2, f2, F3, f3, rfl, _⟩ := id hvX; have hcX := (And.intro (hsXr.cell hl3 z0) (And.intro (hsXr.cell hl3 z1) (And.intro (hsXr.cell hl3 z2) (And.intro (hsXr.cell hl3 z3) (And.intro (hsXr.cell hl3 z4) (And.intro (hsXr.cell hl3 z5) (And.intro (hsXr.cell hl3 z6) (And.intro (hsXr.cell hl3 z7) (And.intro (hsXr.cell hl3 z8) (And.intro (hsXr.cell hl3 z9) (And.intro (hsXr.cell hls sc0) (hsXr.cell hlx xc0)))))))))))))
            | (go_at_call 15; (with_reducible refine (HSV.out _ (by first | exact hsXr | exact hsXr.drew | exact hsXr.drew.drew | exact hsXr.drew.drew.drew)).mono ?_); rintro e wS ⟨vS, rfl, hvS, hsS⟩; have hsSr := (show Sm No w18 _ from (by first | exact hsXr | exact hsXr.drew | exact hsXr.drew.drew | exact hsXr.drew.drew.drew)).trans hsS (fun _ _ h => h); have hvS := hvS.rc; obtain ⟨E1, e1, E2, e2, E3, e3, rfl, _⟩ := id hvS; have hvX := hvX.no ((show Sm No wX _ from (by first | exact Sm.refl No wX | exact (Sm.refl No wX).drew | exact (Sm.refl No wX).drew.drew | exact (Sm.refl No wX).drew.drew.drew)).trans hsS (fun _ _ h => h)); have hcS := (And.intro (hsSr.cell hl3 z0) (And.intro (hsSr.cell hl3 z1) (And.intro (hsSr.cell hl3 z2) (And.intro (hsSr.cell hl3 z3) (And.intro (hsSr.cell hl3 z4) (And.intro (hsSr.cell hl3 z5) (And.intro (hsSr.cell hl3 z6) (And.intro (hsSr.cell hl3 z7) (And.intro (hsSr.cell hl3 z8) (And.intro (hsSr.cell hl3 z9) (And.intro (hsSr.cell hls sc0) (hsSr.cell hlx xc0)))))))))))))
            | (go_at_call 20; (with_reducible refine (HRV2.out _ (by first | exact hsSr | exact hsSr.drew | exact hsSr.drew.drew | exact hsSr.drew.drew.drew)).mono ?_); rintro e wX ⟨vX, rfl, hvX, hsX⟩; have hsXr := (show Sm No w18 _ from (by first | exact hsSr | exact hsSr.drew | exact hsSr.drew.drew | exact hsSr.drew.drew.drew)).trans hsX (fun _ _ h => h); have hvX := hvX.rc; obtain ⟨F1, f1, F2, f2, F3, f3, rfl, _⟩ := id hvX; have hvS := hvS.no ((show Sm No wS _ from (by first | exact Sm.refl No wS | exact (Sm.refl No wS).drew | exact (Sm.refl No wS).drew.drew | exact (Sm.refl No wS).drew.drew.drew)).trans hsX (fun _ _ h => h)); have hcX := (And.intro (hsXr.cell hl3 z0) (And.intro (hsXr.cell hl3 z1) (And.intro (hsXr.cell hl3 z2) (And.intro (hsXr.cell hl3 z3) (And.intro (hsXr.cell hl3 z4) (And.intro (hsXr.cell hl3 z5) (And.intro (hsXr.cell hl3 z6) (And.intro (hsXr.cell hl3 z7) (And.intro (hsXr.cell hl3 z8) (And.intro (hsXr.cell hl3 z9) (And.intro (hsXr.cell hls sc0) (hsXr.cell hlx xc0)))))))))))))
            | (go_at_call 16; (with_reducible refine (response20_any _ _ _ R (hvS.no (by first | exact Sm.refl No wS | exact (Sm.refl No wS).drew | exact (Sm.refl No wS).drew.drew | exact (Sm.refl No wS).drew.drew.drew | exact Sm.refl No wX | exact (Sm.refl No wX).drew | exact (Sm.refl No wX).drew.drew | exact (Sm.refl No wX).drew.drew.drew)) (hvX.no (by first | exact Sm.refl No wS | exact (Sm.refl No wS).drew | exact (Sm.refl No wS).drew.drew | exact (Sm.refl No wS).drew.drew.drew | exact Sm.refl No wX | exact (Sm.refl No wX).drew | exact (Sm.refl No wX).drew.drew | exact (Sm.refl No wX).drew.drew.drew)) HSR.out).mono ?_); rintro e wR ⟨rfl, hsR⟩; have hsRr := (show Sm No w18 _ from (by first | exact hsSr | exact hsSr.drew | exact hsSr.drew.drew | exact hsSr.drew.drew.drew | exact hsXr | exact hsXr.drew | exact hsXr.drew.drew | exact hsXr.drew.drew.drew)).trans hsR (fun _ _ h => h); have hcR := (And.intro (hsRr.cell hl3 z0) (And.intro (hsRr.cell hl3 z1) (And.intro (hsRr.cell hl3 z2) (And.intro (hsRr.cell hl3 z3) (And.intro (hsRr.cell hl3 z4) (And.intro (hsRr.cell hl3 z5) (And.intro (hsRr.cell hl3 z6) (And.intro (hsRr.cell hl3 z7) (And.intro (hsRr.cell hl3 z8) (And.intro (hsRr.cell hl3 z9) (And.intro (hsRr.cell hls sc0) (hsRr.cell hlx xc0)))))))))))))
            | (go_at_call 22; (with_reducible refine (HLn.out _ (by first | exact hsRr | exact hsRr.drew | exact hsRr.drew.drew | exact hsRr.drew.drew.drew)).mono ?_); rintro e _ ⟨rfl, rfl⟩)
            | (go_at_call 13; (with_reducible refine (known20_any _ (HG.out.no (HD.out.1.trans (by first | exact hsRr | exact hsRr.drew | exact hsRr.drew.drew | exact hsRr.drew.drew.drew) (fun _ _ h => h)))).mono ?_); rintro e wK ⟨rfl, hsK⟩; have hsKr := (show Sm No w18 _ from (by first | exact hsRr | exact hsRr.drew | exact hsRr.drew.drew | exact hsRr.drew.drew.drew)).trans hsK (fun _ _ h => h); have hcK := (And.intro (hsKr.cell hl3 z0) (And.intro (hsKr.cell hl3 z1) (And.intro (hsKr.cell hl3 z2) (And.intro (hsKr.cell hl3 z3) (And.intro (hsKr.cell hl3 z4) (And.intro (hsKr.cell hl3 z5) (And.intro (hsKr.cell hl3 z6) (And.intro (hsKr.cell hl3 z7) (And.intro (hsKr.cell hl3 z8) (And.intro (hsKr.cell hl3 z9) (And.intro (hsKr.cell hls sc0) (hsKr.cell hlx xc0))))))))))))))
        all_goals
          have HE := Lib.hid (HD.out.1.trans hsKr (fun _ _ h => h))
          go_wp2_with fail
          go_ret
          exact ⟨rfl, HE.out⟩
    · have hcb : (sc != 0) = true := by simpa using hc0
      have hcb2 : (sc == 0) = false := by simpa using hc0
      obtain ⟨rfl, hs4⟩ := (hN.resolve_left (fun h => hc0 h.1)).2
      have H4 := Lib.hid (H3.out.1.trans hs4 (fun _ _ h => h))
      clear hN hs4 hsc
      go_wp2_with fail
      refine (HX.out w4 (HT.out.1.no H4.out)).mono ?_
      rintro e w5 hN
      obtain ⟨rfl, hs5⟩ := (hN.resolve_left (fun h => hc0 h.1)).2
      have HB := Lib.hid (H4.out.trans hs5 (fun _ _ h => h))
      clear hN hs5 HX
      go_wp2_with fail
      refine (known20_any _ (HG.out.no HB.out)).mono ?_
      rintro e w9 ⟨rfl, hs9⟩
      have H9 := Lib.hid (HB.out.trans hs9 (fun _ _ h => h))
      clear hs9
      go_wp2_with fail
      go_ret
      exact ⟨rfl, H9.out⟩
end Go.Proofs.YtiglfbimijnpcaaGreatDoor

