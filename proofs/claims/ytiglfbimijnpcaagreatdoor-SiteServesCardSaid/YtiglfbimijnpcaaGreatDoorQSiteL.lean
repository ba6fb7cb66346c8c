/- The document's Serve. -/
import Derived.Test.YtiglfbimijnpcaaGreatDoorQSiteH
import Derived.Test.YtiglfbimijnpcaaGreatDoorQSiteJ
import Derived.Test.YtiglfbimijnpcaaGreatDoorQFieldS
namespace Go.Proofs.YtiglfbimijnpcaaGreatDoor
open Go.RowKit Go.Proofs

theorem IsSiteX.parts {w : World} {O : Nat → Prop} {s : Nat} {T : List Ent} (h : IsSiteX w O s T) : ∃ (Q : Nat → Prop) (AT : Option Addr) (cT : Nat) (v0 : Value), IsTwin 75 [.slice AT T.length cT] w Q s (routesL T) ∧ OwnE w 0 (.slice AT T.length cT) T ∧ Bk w s 75 #[v0, .slice AT T.length cT] := by
  obtain ⟨Q, vT, h1, h2, _⟩ := h
  obtain ⟨AT, cT, rfl, _⟩ := own_rowC h2
  have h3 := h1
  obtain ⟨v0, l, hT⟩ := h3
  exact ⟨Q, AT, cT, v0, h1, h2, hT.1⟩
theorem fine_pats {T : List Ent} (_h : T.length ≤ 40) (hc : siteC T = 0) : ∀ x ∈ routesL T, x.pat.length ≤ 1000 := by
  intro y hy
  rcases mem_routes hy with hb | ⟨k, z, hz, rfl⟩
  · simp only [base3, List.mem_cons, List.not_mem_nil, or_false] at hb
    rcases hb with rfl | rfl | rfl <;> decide
  · have hp := (allE_false (site_ent hc (List.mem_of_getElem? hz))).1
    unfold plainL at hp
    simp only [Bool.and_eq_true, decide_eq_true_eq] at hp
    show (txt z.path).length ≤ 1000
    omega
theorem pre6_le {x : ByteArray} (h : Lib.hasPrefix (txt x) sStream = true) : 6 ≤ x.size := by
  unfold Lib.hasPrefix at h
  have := (List.isPrefixOf_iff_prefix.1 h).length_le
  rw [txt_len] at this
  exact this
theorem pre6 {x : ByteArray} (_h : 6 ≤ x.size) : Lib.hasPrefix (txt x) sStream = ((x.extract 0 6).toList == [115, 116, 114, 101, 97, 109]) := by
  have e : (x.extract 0 6).toList = (txt x).take 6 := by
    rw [ByteArray.toList_eq]
    exact (txt_extract x 0 6).trans (by rw [List.drop_zero])
  rw [e, Bool.eq_iff_iff, beq_iff_eq]
  unfold Lib.hasPrefix
  rw [List.isPrefixOf_iff_prefix, List.prefix_iff_eq_take]
  exact ⟨fun h => h.symm, fun h => h.symm⟩
/-- In the round of the document's parts. -/
def EnT (W : World) (g : Nat) (vF vB : Value) (n : Nat) (i : Value) (wr : World) : Prop :=
  ∃ (j : Nat) (vP : Value), (16 * j < n ∨ j = 0) ∧ i = .int .i64 (16 * ((j : Int) + 1)) ∧ ownsU wr (g + 1) 3 1 vP j (intsV ((partsL n).take j)) ∧ Bk wr g 52 #[.int .i64 200, vF, vB, vP] ∧ Sm No W wr
theorem m4_cases {m : Txt} (h : m ∈ m4) : m = GET ∨ m = HEAD ∨ m = OPTS ∨ m = POST := by
  simpa [m4] using h
theorem ne_list {m : ByteArray} {l : List UInt8} (h : ¬ txt m = l) : ¬ m.toList = l ∧ (m.toList == l) = false := by
  rw [ByteArray.toList_eq]
  exact ⟨h, by rw [beq_eq_false_iff_ne]; exact h⟩
theorem eq_list {m : ByteArray} {l : List UInt8} (h : txt m = l) : m.toList = l ∧ (m.toList == l) = true := by
  rw [ByteArray.toList_eq]
  exact ⟨h, by rw [beq_iff_eq]; exact h⟩
theorem allowF_m4 : allowF m4 = ((⟨#[65, 108, 108, 111, 119]⟩ : ByteArray), (⟨#[71, 69, 84, 44, 32, 72, 69, 65, 68, 44, 32, 79, 80, 84, 73, 79, 78, 83, 44, 32, 80, 79, 83, 84]⟩ : ByteArray)) := by rfl
set_option maxRecDepth 100000 in
set_option maxHeartbeats 16000000 in
theorem rserve_0 (w : World) (hg : G1 w) (O : Nat → Prop) (s : Nat) (T : List Ent) (h : IsSiteX w O s T) (hc : siteC T = 0) (hsm : SmallE T) (q : Rq) (A : Option Addr) (c : Nat) (B : Option Addr) (d : Nat) (hq : RqOk w q A c B d) (hf : ¬ q.form = 4) (hf3 : ¬ q.form = 3) (hm4 : txt q.m ∈ m4) (g1 : (q.m.toList == [71, 69, 84]) = true) :
    Calls Tryz.prog 20 #[.pointer (some ⟨s, 0, none⟩), reqV q A c B d] w (AnsPost w w.heap.size (serveL T q)) := by
  have hT := table_40 hc
  obtain ⟨Q, AT, cT, v0, hR, hE, hS⟩ := h.parts
  obtain ⟨m, form, host, path, query, minor, fs, body, close, expect⟩ := q
  have HQ := Lib.hid hq
  dsimp only at hf hf3 hm4 g1
  have HS := Lib.hid (And.intro hR (And.intro hS (And.intro hE hsm)))
  have HG := Lib.hid hg
  clear hR hS hE hsm hg hq h
  unfold reqV
  dsimp only at HQ ⊢
  obtain ⟨R, hRR⟩ : ∃ R, serveL T ⟨m, form, host, path, query, minor, fs, body, close, expect⟩ = R := ⟨_, rfl⟩
  rw [hRR]
  have HRR := Lib.hid hRR
  clear hRR
  obtain ⟨b0, hb0⟩ : ∃ b0, w.heap.size = b0 := ⟨_, rfl⟩
  have HR0 := Lib.hid hb0
  rw [hb0]
  clear hb0
  go_enter Tryz.func20, Tryz.ntmps20
  have HM := Lib.hid (fun (h : txt m ∉ m4) => h hm4)
  have g0 : (form == 3) = false := by rw [beq_eq_false_iff_ne]; exact hf3
  clear hm4
  go_wp2_with fail
  rw [HR0.out]
  obtain ⟨w1, hw1⟩ : ∃ w1, (w.alloc (.cells #[.string m, .int .i64 form, .string host, .string path, .string query, .int .i64 minor, .slice A fs.length c, .slice B body.length d, .bool close, .bool expect] 29)).alloc (.cells #[.int .i64 0, .slice none 0 0, .slice none 0 0, .slice none 0 0] 52) = w1 := ⟨_, rfl⟩
  rw [hw1]
  have hs1 : Sm No w w1 := by rw [← hw1]; exact ((Sm.refl No w).alloc _).alloc _
  have hbq : Bk w1 b0 29 #[.string m, .int .i64 form, .string host, .string path, .string query, .int .i64 minor, .slice A fs.length c, .slice B body.length d, .bool close, .bool expect] := by rw [← hw1, ← HR0.out]; exact (Bk.new w _ _).alloc _
  have hbr : Bk w1 (b0 + 1) 52 #[.int .i64 0, .slice none 0 0, .slice none 0 0, .slice none 0 0] := by rw [← hw1]; exact Bk.newAt _ _ _ (by rw [← HR0.out]; simp)
  have hz1 : b0 + 1 + 1 = w1.heap.size := by rw [← hw1, ← HR0.out]; simp
  have H1 := Lib.hid (And.intro hs1 (And.intro hbq hbr))
  clear hs1 hbq hbr hw1
  have hno : ¬ (form = 3 ∨ txt m ∉ m4) := fun h => by
    rcases h with h | h
    · exact hf3 h
    · exact HM.out h
  have hm2 := serve_m HRR.out hf hno
  have hms := (match_site T (txt m) (txt path)).resolve_right (by omega)
  have hMP := fun (W : World) (hW : IsTwin 75 [.slice AT T.length cT] W Q s (routesL T)) => rmatch_any W Q s (routesL T) m path hW (by rw [routes_len]; omega) (fine_pats hT hc) (fun x hx => (fine_routes hT).2 x hx) (by have := HQ.out.2.2.2.2.2.1; dsimp only at this; omega)
  unfold MatchPost at hMP
  dsimp only at hm2
  obtain ⟨⟨i, rest, al, st⟩, hM⟩ : ∃ M, matchL (routesL T) (txt m) (txt path) = M := ⟨_, rfl⟩
  rw [hM] at hm2 hms
  simp only [hM] at hMP
  obtain ⟨rb, hrb⟩ : ∃ rb : ByteArray, strB rest = .string rb := ⟨_, rfl⟩
  rw [hrb] at hMP
  dsimp only at hm2 hms
  have HMP := Lib.hid hMP
  have HM2 := Lib.hid hm2
  have HMS := Lib.hid hms
  clear hm2 hms hMP hM hrb hno
  have q3 := H1.out.2.1.at 3 (v := .string path) rfl
  have hql := H1.out.2.1.lt
  go_wp2_with fail
  go_region_held3 (fun w' => w'.cell? ⟨b0, 3, none⟩ = some (.string path)) (first | exact q3 | exact q39 | go_keep)
    ((go_at_call 50; (with_reducible refine (HMP.out _ (HS.out.1.no (H1.out.1.drew))).mono ?_); rintro e w9 ⟨v9, rfl, hv9, hs9⟩; have q39 := hs9.cell hql q3))
  all_goals
    obtain ⟨AV, cV, rfl, hrV, hcV, _⟩ := own_rowC hv9
    have hs19 : Sm No w w9 := H1.out.1.drew.trans hs9 (fun _ _ h => h)
    have hbr9 := H1.out.2.2.drew.sm hs9 (fun h => h)
    have hbq9 := H1.out.2.1.drew.sm hs9 (fun h => h)
    have H9 := Lib.hid (And.intro hs19 (And.intro hbr9 (And.intro hbq9 (And.intro hrV hcV))))
    have q69 := hbq9.at 6 (v := .slice A fs.length c) rfl
    have q79 := hbq9.at 7 (v := .slice B body.length d) rfl
    have hql := hbq9.lt
    clear hs9 hv9 hs19 hbr9 hbq9 hrV hcV q39 q3
    rcases HMS.out with h404 | ⟨h405, hsml⟩ | ⟨h200, hid⟩
    · subst h404
      have HE := Lib.hid (show cannedL 404 [] = R from by have e := HM2.out; rw [if_pos rfl] at e; exact e)
      go_wp2_with fail
      refine (rCanned_any w9 (HG.out.no (H9.out.1)) 404 (by decide) (by decide) none 0 [] (fun k hk => by cases hk) (fun _ => ⟨rfl, rfl⟩) (by decide)).mono ?_
      rintro e w3 ⟨v, rfl, hR, hs3⟩
      have hb3 := (H9.out.2.1).sm hs3 (fun h => h)
      have hs3 := (H9.out.1).trans hs3 (fun _ _ h => h)
      have hlt : b0 + 1 < w9.heap.size := (H9.out.2.1).lt
      rw [show cannedL 404 [] = R from HE.out] at hR
      obtain ⟨vF, vB, vP, rfl, hFF, hB, hP⟩ := hR
      obtain ⟨A1, c1', rfl, _⟩ := hFF.row
      obtain ⟨A2, c2', rfl, _⟩ := hB.row
      obtain ⟨A3, c3', rfl, _⟩ := hP.row
      have HD := Lib.hid (ans_done (by rw [HR0.out]; omega) hs3 hb3 hlt ⟨_, _, _, rfl, hFF, hB, hP⟩)
      have hl := hb3.lt
      have f0 := hb3.fz 0
      have f1 := hb3.fz 1
      have f2 := hb3.fz 2
      have f3 := hb3.fz 3
      have d0 := hb3.at 0 rfl
      have d1 := hb3.at 1 rfl
      have d2 := hb3.at 2 rfl
      have d3 := hb3.at 3 rfl
      clear hFF hB hP hb3 hs3 hlt
      go_wp2_with fail
      have c0 := HD.out.2.at 0 rfl
      have c1 := HD.out.2.at 1 rfl
      have c2 := HD.out.2.at 2 rfl
      have c3 := HD.out.2.at 3 rfl
      exact bodyPost_ret (v := .agg #[.int .i64 R.st, .slice A1 R.fs.length c1', .slice A2 R.body.length c2', .slice A3 R.parts.length c3']) (by simp [results, Tryz.results20, go_sem, c0, c1, c2, c3]) rfl (by have h := HD.out.1; rw [HR0.out] at h; exact h)
    · subst h405
      by_cases hO : txt m = OPTS
      · have e1 : (m.toList == [79, 80, 84, 73, 79, 78, 83]) = true := by rw [beq_txt]; exact decide_eq_true hO
        have e2 : m.toList = [79, 80, 84, 73, 79, 78, 83] := by simpa using e1
        obtain ⟨fa, hfa⟩ : ∃ fa, (allowF al).1 = fa := ⟨_, rfl⟩
        obtain ⟨fb, hfb⟩ : ∃ fb, (allowF al).2 = fb := ⟨_, rfl⟩
        have HE := Lib.hid (show cannedL 204 [(fa, fb)] = R from by have e := HM2.out; rw [if_neg (by decide), if_pos rfl, if_pos hO] at e; rw [← hfa, ← hfb]; exact e)
        have HAL := Lib.hid (rsallow_any w9 AV cV al H9.out.2.2.2.1 hsml)
        rw [hfa, hfb] at HAL
        clear hfa hfb
        go_wp2_with fail
        refine HAL.out.mono ?_
        rintro e w10 ⟨rfl, hs10⟩
        have H10 := Lib.hid (And.intro (H9.out.1.trans hs10 (fun _ _ h => h)) (H9.out.2.1.sm hs10 (fun h => h)))
        clear hs10 HAL
        go_wp2_with fail
        refine (rCanned_any (w10.alloc (.cells #[.string fa, .string fb] 65)) (HG.out.no (H10.out.1.alloc _)) 204 (by decide) (by decide) (some ⟨w10.heap.size, 0, none⟩) 1 [(fa, fb)] (fRow_one (Bk.new w10 _ _)) (fun e => by cases e) (by simp)).mono ?_
        rintro e w3 ⟨v, rfl, hR, hs3⟩
        have hb3 := ((H10.out.2).alloc (.cells #[.string fa, .string fb] 65)).sm hs3 (fun h => h)
        have hs3 := ((H10.out.1).alloc (.cells #[.string fa, .string fb] 65)).trans hs3 (fun _ _ h => h)
        have hlt : b0 + 1 < (w10.alloc (.cells #[.string fa, .string fb] 65)).heap.size := Nat.lt_of_lt_of_le (H10.out.2).lt (by simp)
        rw [HE.out] at hR
        obtain ⟨vF, vB, vP, rfl, hFF, hB, hP⟩ := hR
        obtain ⟨A1, c1', rfl, _⟩ := hFF.row
        obtain ⟨A2, c2', rfl, _⟩ := hB.row
        obtain ⟨A3, c3', rfl, _⟩ := hP.row
        have HD := Lib.hid (ans_done (by rw [HR0.out]; omega) hs3 hb3 hlt ⟨_, _, _, rfl, hFF, hB, hP⟩)
        have hl := hb3.lt
        have f0 := hb3.fz 0
        have f1 := hb3.fz 1
        have f2 := hb3.fz 2
        have f3 := hb3.fz 3
        have d0 := hb3.at 0 rfl
        have d1 := hb3.at 1 rfl
        have d2 := hb3.at 2 rfl
        have d3 := hb3.at 3 rfl
        clear hFF hB hP hb3 hs3 hlt
        go_wp2_with fail
        have c0 := HD.out.2.at 0 rfl
        have c1 := HD.out.2.at 1 rfl
        have c2 := HD.out.2.at 2 rfl
        have c3 := HD.out.2.at 3 rfl
        exact bodyPost_ret (v := .agg #[.int .i64 R.st, .slice A1 R.fs.length c1', .slice A2 R.body.length c2', .slice A3 R.parts.length c3']) (by simp [results, Tryz.results20, go_sem, c0, c1, c2, c3]) rfl (by have h := HD.out.1; rw [HR0.out] at h; exact h)
      · have e1 : (m.toList == [79, 80, 84, 73, 79, 78, 83]) = false := by rw [beq_txt]; exact decide_eq_false hO
        have e2 : ¬ m.toList = [79, 80, 84, 73, 79, 78, 83] := by simpa using e1
        obtain ⟨fa, hfa⟩ : ∃ fa, (allowF al).1 = fa := ⟨_, rfl⟩
        obtain ⟨fb, hfb⟩ : ∃ fb, (allowF al).2 = fb := ⟨_, rfl⟩
        have HE := Lib.hid (show cannedL 405 [(fa, fb)] = R from by have e := HM2.out; rw [if_neg (by decide), if_pos rfl, if_neg hO] at e; rw [← hfa, ← hfb]; exact e)
        have HAL := Lib.hid (rsallow_any w9 AV cV al H9.out.2.2.2.1 hsml)
        rw [hfa, hfb] at HAL
        clear hfa hfb
        go_wp2_with fail
        refine HAL.out.mono ?_
        rintro e w10 ⟨rfl, hs10⟩
        have H10 := Lib.hid (And.intro (H9.out.1.trans hs10 (fun _ _ h => h)) (H9.out.2.1.sm hs10 (fun h => h)))
        clear hs10 HAL
        go_wp2_with fail
        refine (rCanned_any (w10.alloc (.cells #[.string fa, .string fb] 65)) (HG.out.no (H10.out.1.alloc _)) 405 (by decide) (by decide) (some ⟨w10.heap.size, 0, none⟩) 1 [(fa, fb)] (fRow_one (Bk.new w10 _ _)) (fun e => by cases e) (by simp)).mono ?_
        rintro e w3 ⟨v, rfl, hR, hs3⟩
        have hb3 := ((H10.out.2).alloc (.cells #[.string fa, .string fb] 65)).sm hs3 (fun h => h)
        have hs3 := ((H10.out.1).alloc (.cells #[.string fa, .string fb] 65)).trans hs3 (fun _ _ h => h)
        have hlt : b0 + 1 < (w10.alloc (.cells #[.string fa, .string fb] 65)).heap.size := Nat.lt_of_lt_of_le (H10.out.2).lt (by simp)
        rw [HE.out] at hR
        obtain ⟨vF, vB, vP, rfl, hFF, hB, hP⟩ := hR
        obtain ⟨A1, c1', rfl, _⟩ := hFF.row
        obtain ⟨A2, c2', rfl, _⟩ := hB.row
        obtain ⟨A3, c3', rfl, _⟩ := hP.row
        have HD := Lib.hid (ans_done (by rw [HR0.out]; omega) hs3 hb3 hlt ⟨_, _, _, rfl, hFF, hB, hP⟩)
        have hl := hb3.lt
        have f0 := hb3.fz 0
        have f1 := hb3.fz 1
        have f2 := hb3.fz 2
        have f3 := hb3.fz 3
        have d0 := hb3.at 0 rfl
        have d1 := hb3.at 1 rfl
        have d2 := hb3.at 2 rfl
        have d3 := hb3.at 3 rfl
        clear hFF hB hP hb3 hs3 hlt
        go_wp2_with fail
        have c0 := HD.out.2.at 0 rfl
        have c1 := HD.out.2.at 1 rfl
        have c2 := HD.out.2.at 2 rfl
        have c3 := HD.out.2.at 3 rfl
        exact bodyPost_ret (v := .agg #[.int .i64 R.st, .slice A1 R.fs.length c1', .slice A2 R.body.length c2', .slice A3 R.parts.length c3']) (by simp [results, Tryz.results20, go_sem, c0, c1, c2, c3]) rfl (by have h := HD.out.1; rw [HR0.out] at h; exact h)
    · subst h200
      have HE := Lib.hid (show idA T ⟨m, form, host, path, query, minor, fs, body, close, expect⟩ i = R from by have e := HM2.out; rw [if_neg (by decide), if_neg (by decide)] at e; exact e)
      rcases hid with h1 | h2 | h3 | ⟨k, x, hx, hk⟩
      · subst h1
        have hsh : Short fs := fun y hy => ⟨by have := (HQ.out.2.2.2.2.2.2.2.1 y hy).1; omega, by have := (HQ.out.2.2.2.2.2.2.2.1 y hy).2; omega⟩
        have hgl : (getL (addL [] fs).1 (txtB sCT)).length ≤ 900000 ∨ 24 < (addL [] fs).1.length := by
          by_cases h24 : 24 < (addL [] fs).1.length
          · exact Or.inr h24
          · exact Or.inl (getL_le (fun y hy => by
              rcases addL_mem fs [] y hy with g | ⟨g, _⟩
              · cases g
              · exact (HQ.out.2.2.2.2.2.2.2.1 y g).2) (by omega))
        have HSh := Lib.hid (And.intro (short_addL hsh) hgl)
        have HAd := Lib.hid (rAdd_any (w9.alloc (.cells #[.slice none 0 0] 88)) w9.heap.size w9.heap.size (.slice none 0 0) [] fs A c
          ⟨Bk.new w9 _ _, World.ownsRow_nil _ _ _ _, by simp [Value.ownBlock]⟩ (by decide) ((HQ.out.1.no H9.out.1).no ((Sm.refl No w9).alloc _))
          (fun h0 a ha ht => by
            obtain ⟨bb, off, hAe, hb, _⟩ := (HQ.out.1.no H9.out.1) 0 h0
            rw [ha] at hAe
            injection hAe with hAe
            subst hAe
            rcases ht with ht | ht
            · have ht : bb = w9.heap.size := ht
              omega
            · cases ht) hsh (by have := HQ.out.2.2.2.2.2.2.2.2.1; dsimp only at this; omega) (by simp))
        clear hsh hgl
        go_wp2_with fail
        refine HAd.out.mono ?_
        rintro e w10 ⟨v10, rfl, hF10, hl10, hs10, _⟩
        have hs10 : Sm No w9 w10 := ((Sm.refl No w9).alloc (.cells #[.slice none 0 0] 88)).fresh hs10 (fun b hb => by
          rcases hb with hb | hb
          · omega
          · cases hb)
        have HF10 := Lib.hid (And.intro hF10 hs10)
        have hgl := HSh.out.2.resolve_right (by omega)
        clear hF10 hs10 HAd
        go_wp2_with fail
        refine (rGet_any w10 _ _ v10 _ (txtB sCT) HF10.out.1 hl10 HSh.out.1 (by decide)).mono ?_
        rintro e w11 ⟨gt, hgt2, rfl, hs11⟩
        have hgs : gt.size ≤ 900000 := by
          have : gt.data.toList.length ≤ 900000 := by rw [hgt2]; exact hgl
          simpa using this
        obtain ⟨tr, htr⟩ : ∃ tr : ByteArray, (⟨(trimL gt.data.toList).toArray⟩ : ByteArray) = tr := ⟨_, rfl⟩
        have HTr := Lib.hid htr
        have HS11 := Lib.hid (And.intro (HF10.out.2.trans hs11 (fun _ _ h => h)) (And.intro hgt2 hgs))
        clear hgt2 hgl hs11 htr
        go_wp2_with fail
        refine (rTrim_say HTr (by omega) w11).mono ?_
        rintro e w12 ⟨rfl, hs12⟩
        have hs912 : Sm No w9 w12 := by rw [← hs12]; exact HS11.out.1
        have hb12 := H9.out.2.2.1.sm hs912 (fun h => h)
        have q79 := hb12.at 7 (v := .slice B body.length d) rfl
        have hql := hb12.lt
        have H12 := Lib.hid (And.intro hs912 hb12)
        clear hs12 hs912 hb12 q69
        have htr : txt tr = trimL (getL (addL [] fs).1 (txtB sCT)) := by rw [← HTr.out, HS11.out.2.1]; rfl
        by_cases hz : tr.size = 0
        · have htz : txt tr = [] := List.eq_nil_of_length_eq_zero (by rw [txt_len]; exact hz)
          have e2 : tr.toList = [] := by rw [ByteArray.toList_eq]; exact htz
          have HE2 := Lib.hid (show okL (txtB sOctet) body = R from by
            rw [← HE.out]
            unfold idA typeL
            rw [if_pos rfl, if_pos (htr.symm.trans htz)])
          clear htr htz
          go_wp2_with (refine wpList_push_opt rfl _ _ 23 5 rfl Tryz.underlying23 _ 1 1 infoU8 rfl (by decide) (by decide) w12.heap.size 0 _ [] rfl (own_empty w12 _ _ (Nat.le_refl _)) B body.length d (byteV body) rfl HQ.out.2.2.2.1 (by rw [byteV_len, Nat.mul_one]) ((HQ.out.2.2.1.no (H9.out.1.trans H12.out.1 (fun _ _ h => h))).no ((Sm.refl No w12).alloc _)) (byteV_one body) (by have := HQ.out.2.2.2.2.2.2.2.2.2; dsimp only at this; omega) (by simp) ?_; intro vb w13 hown hs13 _; refine RowKit.Hid.out ?_)
          refine Lib.hid ?_
          have hvb : OwnB w13 w12.heap.size 5 vb body := by
            have h := ownsU.of hown
            rw [Nat.zero_add, List.nil_append] at h
            exact h
          have hs13 : Sm No w12 w13 := ((Sm.refl No w12).alloc (.cells #[] 5)).fresh hs13 (fun b hb => by
            have hb : some w12.heap.size = some b := hb
            injection hb with hb
            omega)
          have HS13 := Lib.hid (And.intro hvb hs13)
          clear hown hvb hs13
          obtain ⟨vA, vc, rfl, _⟩ := HS13.out.1.row
          go_wp2_with fail
          refine (rsok_any w13 w12.heap.size HS13.out.2.size (txtB sOctet) _ body HS13.out.1).mono ?_
          rintro e w3 ⟨v, rfl, hR, hs3⟩
          have hb3 := ((H9.out.2.1.sm H12.out.1 (fun h => h)).sm HS13.out.2 (fun h => h)).sm hs3 (fun h => h)
          have hlt : b0 + 1 < w12.heap.size := (H9.out.2.1.sm H12.out.1 (fun h => h)).lt
          have hs3 := ((H9.out.1.trans H12.out.1 (fun _ _ h => h)).trans HS13.out.2 (fun _ _ h => h)).trans hs3 (fun _ _ h => h)
          rw [HE2.out] at hR
          obtain ⟨vF, vB, vP, rfl, hFF, hB, hP⟩ := hR
          obtain ⟨A1, c1', rfl, _⟩ := hFF.row
          obtain ⟨A2, c2', rfl, _⟩ := hB.row
          obtain ⟨A3, c3', rfl, _⟩ := hP.row
          have HD := Lib.hid (ans_done (by rw [HR0.out]; omega) hs3 hb3 hlt ⟨_, _, _, rfl, hFF, hB, hP⟩)
          have hl := hb3.lt
          have f0 := hb3.fz 0
          have f1 := hb3.fz 1
          have f2 := hb3.fz 2
          have f3 := hb3.fz 3
          have d0 := hb3.at 0 rfl
          have d1 := hb3.at 1 rfl
          have d2 := hb3.at 2 rfl
          have d3 := hb3.at 3 rfl
          clear hFF hB hP hb3 hs3 hlt
          go_wp2_with fail
          have c0 := HD.out.2.at 0 rfl
          have c1 := HD.out.2.at 1 rfl
          have c2 := HD.out.2.at 2 rfl
          have c3 := HD.out.2.at 3 rfl
          exact bodyPost_ret (v := .agg #[.int .i64 R.st, .slice A1 R.fs.length c1', .slice A2 R.body.length c2', .slice A3 R.parts.length c3']) (by simp [results, Tryz.results20, go_sem, c0, c1, c2, c3]) rfl (by have h := HD.out.1; rw [HR0.out] at h; exact h)
        · have htz : ¬ txt tr = [] := fun e => hz (by rw [← txt_len, e]; rfl)
          have e2 : ¬ tr.toList = [] := by rw [ByteArray.toList_eq]; exact htz
          have e2b : tr.toList.isEmpty = false := by
            cases h : tr.toList with
            | nil => exact absurd h e2
            | cons => rfl
          have HE2 := Lib.hid (show okL tr body = R from by
            rw [← HE.out]
            unfold idA typeL
            rw [if_pos rfl, if_neg (fun e => htz (htr.trans e)), ← htr]
            rfl)
          clear htr htz
          go_wp2_with (refine wpList_push_opt rfl _ _ 23 5 rfl Tryz.underlying23 _ 1 1 infoU8 rfl (by decide) (by decide) w12.heap.size 0 _ [] rfl (own_empty w12 _ _ (Nat.le_refl _)) B body.length d (byteV body) rfl HQ.out.2.2.2.1 (by rw [byteV_len, Nat.mul_one]) ((HQ.out.2.2.1.no (H9.out.1.trans H12.out.1 (fun _ _ h => h))).no ((Sm.refl No w12).alloc _)) (byteV_one body) (by have := HQ.out.2.2.2.2.2.2.2.2.2; dsimp only at this; omega) (by simp) ?_; intro vb w13 hown hs13 _; refine RowKit.Hid.out ?_)
          refine Lib.hid ?_
          have hvb : OwnB w13 w12.heap.size 5 vb body := by
            have h := ownsU.of hown
            rw [Nat.zero_add, List.nil_append] at h
            exact h
          have hs13 : Sm No w12 w13 := ((Sm.refl No w12).alloc (.cells #[] 5)).fresh hs13 (fun b hb => by
            have hb : some w12.heap.size = some b := hb
            injection hb with hb
            omega)
          have HS13 := Lib.hid (And.intro hvb hs13)
          clear hown hvb hs13
          obtain ⟨vA, vc, rfl, _⟩ := HS13.out.1.row
          go_wp2_with fail
          refine (rsok_any w13 w12.heap.size HS13.out.2.size tr _ body HS13.out.1).mono ?_
          rintro e w3 ⟨v, rfl, hR, hs3⟩
          have hb3 := ((H9.out.2.1.sm H12.out.1 (fun h => h)).sm HS13.out.2 (fun h => h)).sm hs3 (fun h => h)
          have hlt : b0 + 1 < w12.heap.size := (H9.out.2.1.sm H12.out.1 (fun h => h)).lt
          have hs3 := ((H9.out.1.trans H12.out.1 (fun _ _ h => h)).trans HS13.out.2 (fun _ _ h => h)).trans hs3 (fun _ _ h => h)
          rw [HE2.out] at hR
          obtain ⟨vF, vB, vP, rfl, hFF, hB, hP⟩ := hR
          obtain ⟨A1, c1', rfl, _⟩ := hFF.row
          obtain ⟨A2, c2', rfl, _⟩ := hB.row
          obtain ⟨A3, c3', rfl, _⟩ := hP.row
          have HD := Lib.hid (ans_done (by rw [HR0.out]; omega) hs3 hb3 hlt ⟨_, _, _, rfl, hFF, hB, hP⟩)
          have hl := hb3.lt
          have f0 := hb3.fz 0
          have f1 := hb3.fz 1
          have f2 := hb3.fz 2
          have f3 := hb3.fz 3
          have d0 := hb3.at 0 rfl
          have d1 := hb3.at 1 rfl
          have d2 := hb3.at 2 rfl
          have d3 := hb3.at 3 rfl
          clear hFF hB hP hb3 hs3 hlt
          go_wp2_with fail
          have c0 := HD.out.2.at 0 rfl
          have c1 := HD.out.2.at 1 rfl
          have c2 := HD.out.2.at 2 rfl
          have c3 := HD.out.2.at 3 rfl
          exact bodyPost_ret (v := .agg #[.int .i64 R.st, .slice A1 R.fs.length c1', .slice A2 R.body.length c2', .slice A3 R.parts.length c3']) (by simp [results, Tryz.results20, go_sem, c0, c1, c2, c3]) rfl (by have h := HD.out.1; rw [HR0.out] at h; exact h)
      · subst h2
        have HTb := Lib.hid (own_rowC_at (own_row_sm HS.out.2.2.1 H9.out.1 (fun _ _ h => h)))
        have HE2 := Lib.hid (show keyA T (txt query) = R from by
          rw [← HE.out]
          unfold idA
          rw [if_neg (by decide), if_pos rfl])
        go_wp2_with fail
        go_loopw [12] (fun i wr => SvK w9 T (txt query) i wr) (fun i _ => T.length - (intOf i).toNat)
        case atStart => exact ⟨0, Nat.zero_le _, rfl, by simp, Sm.refl _ _⟩
        case round =>
          obtain ⟨k, hk, rfl, hne, hs⟩ := hrel
          have hs9 := H9.out.1.trans hs (fun _ _ h => h)
          have hbq := H9.out.2.2.1.sm hs (fun h => h)
          have hbr := H9.out.2.1.sm hs (fun h => h)
          have q49 := hbq.at 4 (v := .string query) rfl
          have hql := hbq.lt
          have hS9 := HS.out.2.1.sm hs9 (fun h => h)
          have c1 := hS9.at 1 (v := .slice AT T.length cT) rfl
          have hsl := hS9.lt
          have HK := Lib.hid (And.intro hs9 (And.intro hbr (And.intro hs hne)))
          clear hs9 hbq hbr q69 q79 hS9
          by_cases hlt : k < T.length
          · obtain ⟨x, hx⟩ : ∃ x, T[k]? = some x := ⟨_, List.getElem?_eq_getElem hlt⟩
            obtain ⟨t1, t2, t3⟩ := entCells_at hx
            obtain ⟨bb, off, hAe, hbb, r0⟩ := (HTb.out.no hs).at t1
            subst hAe
            obtain ⟨_, _, hA1, _, r2⟩ := (HTb.out.no hs).at t3
            injection hA1 with hA1; injection hA1 with e1 e2; subst e1 e2
            rw [show off + (k * 3 + 2) = off + k * 3 + 2 by omega] at r2
            have k1 : (0 : Int) ≤ (k : Int) := by omega
            have k2 : (k : Int) < (T.length : Int) := by omega
            obtain ⟨s1, s2, s3⟩ := HS.out.2.2.2 x (List.mem_of_getElem? hx)
            have hqz : query.size ≤ 30000 := HQ.out.2.2.2.2.2.2.1
            have HX := Lib.hid hx
            clear hx t1 t2 t3 hs hne
            by_cases he : txt x.path = 47 :: txt query
            · have e1 : (x.path.toList == (((⟨#[47]⟩ : ByteArray) ++ query).toList)) = true := by
                rw [beq_txt]; exact decide_eq_true (by rw [he, ByteArray.toList_eq]; simp [txt])
              have e2 : x.path.toList = ((⟨#[47]⟩ : ByteArray) ++ query).toList := by simpa using e1
              have HE3 := Lib.hid ((keyA_at HK.out.2.2.2 HX.out he).symm.trans HE2.out)
              clear he
              go_wp2_with fail
              go_quiet (fail)
              go_wp2_with (refine wpList_bytes_own rfl 9 23 5 _ rfl _ rfl Tryz.underlying9 Tryz.underlying23 Tryz.underlying5 wr.heap.size (by simp) (by unfold maxLen; omega) ?_; intro cB w6 hOB hsB hzB; refine RowKit.Hid.out ?_)
              refine Lib.hid ?_
              have hsB := ((Sm.refl No wr).drewN _).trans hsB (fun _ _ h => h)
              have H6 := Lib.hid (And.intro (HK.out.1.trans hsB (fun _ _ h => h)) (And.intro (HK.out.2.1.sm hsB (fun h => h)) (And.intro hOB hsB.size)))
              clear hOB hsB hzB
              go_wp2_with fail
              refine (rsok_any w6 wr.heap.size H6.out.2.2.2 (txtB sPlain) _ (txt x.data) H6.out.2.2.1).mono ?_
              rintro e w3 ⟨v, rfl, hR, hs3⟩
              have hb3 := H6.out.2.1.sm hs3 (fun h => h)
              have hlt : b0 + 1 < wr.heap.size := HK.out.2.1.lt
              have hs3 := H6.out.1.trans hs3 (fun _ _ h => h)
              rw [HE3.out] at hR
              obtain ⟨vF, vB, vP, rfl, hFF, hB, hP⟩ := hR
              obtain ⟨A1, c1', rfl, _⟩ := hFF.row
              obtain ⟨A2, c2', rfl, _⟩ := hB.row
              obtain ⟨A3, c3', rfl, _⟩ := hP.row
              have HD := Lib.hid (ans_done (by rw [HR0.out]; omega) hs3 hb3 hlt ⟨_, _, _, rfl, hFF, hB, hP⟩)
              have hl := hb3.lt
              have f0 := hb3.fz 0
              have f1 := hb3.fz 1
              have f2 := hb3.fz 2
              have f3 := hb3.fz 3
              have d0 := hb3.at 0 rfl
              have d1 := hb3.at 1 rfl
              have d2 := hb3.at 2 rfl
              have d3 := hb3.at 3 rfl
              clear hFF hB hP hb3 hs3 hlt
              go_wp2_with fail
              have c0 := HD.out.2.at 0 rfl
              have c1 := HD.out.2.at 1 rfl
              have c2 := HD.out.2.at 2 rfl
              have c3 := HD.out.2.at 3 rfl
              exact bodyPost_ret (v := .agg #[.int .i64 R.st, .slice A1 R.fs.length c1', .slice A2 R.body.length c2', .slice A3 R.parts.length c3']) (by simp [results, Tryz.results20, go_sem, c0, c1, c2, c3]) rfl (by have h := HD.out.1; rw [HR0.out] at h; exact h)
            · have e1 : (x.path.toList == (((⟨#[47]⟩ : ByteArray) ++ query).toList)) = false := by
                rw [beq_txt]; exact decide_eq_false (fun e => he (by rw [e, ByteArray.toList_eq]; simp [txt]))
              have e2 : ¬ x.path.toList = ((⟨#[47]⟩ : ByteArray) ++ query).toList := by simpa using e1
              have HN := Lib.hid (takeE_all (p := fun x => txt x.path ≠ 47 :: txt query) HK.out.2.2.2 HX.out he)
              clear he
              go_wp2_with fail
              go_quiet (fail)
              go_wp2_with fail
              exact ⟨⟨k + 1, by omega, by go_num, HN.out, HK.out.2.2.1.drewN _⟩, by simp [intOf]; omega⟩
          · obtain rfl : k = T.length := by omega
            rw [List.take_length] at hne
            have HE3 := Lib.hid ((keyA_none hne).symm.trans HE2.out)
            clear hne hs
            go_wp2_with fail
            refine (rCanned_any wr (HG.out.no (HK.out.1)) 404 (by decide) (by decide) none 0 [] (fun k hk => by cases hk) (fun _ => ⟨rfl, rfl⟩) (by decide)).mono ?_
            rintro e w3 ⟨v, rfl, hR, hs3⟩
            have hb3 := (HK.out.2.1).sm hs3 (fun h => h)
            have hs3 := (HK.out.1).trans hs3 (fun _ _ h => h)
            have hlt : b0 + 1 < wr.heap.size := (HK.out.2.1).lt
            rw [show cannedL 404 [] = R from HE3.out] at hR
            obtain ⟨vF, vB, vP, rfl, hFF, hB, hP⟩ := hR
            obtain ⟨A1, c1', rfl, _⟩ := hFF.row
            obtain ⟨A2, c2', rfl, _⟩ := hB.row
            obtain ⟨A3, c3', rfl, _⟩ := hP.row
            have HD := Lib.hid (ans_done (by rw [HR0.out]; omega) hs3 hb3 hlt ⟨_, _, _, rfl, hFF, hB, hP⟩)
            have hl := hb3.lt
            have f0 := hb3.fz 0
            have f1 := hb3.fz 1
            have f2 := hb3.fz 2
            have f3 := hb3.fz 3
            have d0 := hb3.at 0 rfl
            have d1 := hb3.at 1 rfl
            have d2 := hb3.at 2 rfl
            have d3 := hb3.at 3 rfl
            clear hFF hB hP hb3 hs3 hlt
            go_wp2_with fail
            have c0 := HD.out.2.at 0 rfl
            have c1 := HD.out.2.at 1 rfl
            have c2 := HD.out.2.at 2 rfl
            have c3 := HD.out.2.at 3 rfl
            exact bodyPost_ret (v := .agg #[.int .i64 R.st, .slice A1 R.fs.length c1', .slice A2 R.body.length c2', .slice A3 R.parts.length c3']) (by simp [results, Tryz.results20, go_sem, c0, c1, c2, c3]) rfl (by have h := HD.out.1; rw [HR0.out] at h; exact h)
      · subst h3
        have HE2 := Lib.hid (show okL (txtB sPlain) [111, 107, 10] = R from by
          rw [← HE.out]
          unfold idA
          rw [if_neg (by decide), if_neg (by decide), if_pos rfl])
        have hOb : OwnB (w9.alloc (.cells #[.int .u8 111, .int .u8 107, .int .u8 10] 5 (3, 4))) w9.heap.size 5 (.slice (some ⟨w9.heap.size, 0, none⟩) 3 3) [111, 107, 10] :=
          ⟨rfl, Or.inr ⟨w9.heap.size, 3, _, (3, 4), rfl, Nat.le_refl _, heap_alloc_new w9 _, Or.inr (by decide), by decide, by decide, rfl, rfl⟩⟩
        have HOb := Lib.hid hOb
        clear hOb
        have kc := fun (w : World) (C : Array Value) (n c : Nat) => Lib.run_convert_bytes_const (P := Tryz.prog) w 23 5 C n c Tryz.underlying23 Tryz.underlying5
        go_wp2_with fail
        refine (rsok_any _ w9.heap.size (by simp) (txtB sPlain) _ [111, 107, 10] HOb.out).mono ?_
        rintro e w3 ⟨v, rfl, hR, hs3⟩
        have hb3 := (H9.out.2.1.alloc (.cells #[.int .u8 111, .int .u8 107, .int .u8 10] 5 (3, 4))).sm hs3 (fun h => h)
        have hlt : b0 + 1 < w9.heap.size := H9.out.2.1.lt
        have hs3 := (H9.out.1.alloc (.cells #[.int .u8 111, .int .u8 107, .int .u8 10] 5 (3, 4))).trans hs3 (fun _ _ h => h)
        rw [HE2.out] at hR
        obtain ⟨vF, vB, vP, rfl, hFF, hB, hP⟩ := hR
        obtain ⟨A1, c1', rfl, _⟩ := hFF.row
        obtain ⟨A2, c2', rfl, _⟩ := hB.row
        obtain ⟨A3, c3', rfl, _⟩ := hP.row
        have HD := Lib.hid (ans_done (by rw [HR0.out]; omega) hs3 hb3 hlt ⟨_, _, _, rfl, hFF, hB, hP⟩)
        have hl := hb3.lt
        have f0 := hb3.fz 0
        have f1 := hb3.fz 1
        have f2 := hb3.fz 2
        have f3 := hb3.fz 3
        have d0 := hb3.at 0 rfl
        have d1 := hb3.at 1 rfl
        have d2 := hb3.at 2 rfl
        have d3 := hb3.at 3 rfl
        clear hFF hB hP hb3 hs3 hlt
        go_wp2_with fail
        have c0 := HD.out.2.at 0 rfl
        have c1 := HD.out.2.at 1 rfl
        have c2 := HD.out.2.at 2 rfl
        have c3 := HD.out.2.at 3 rfl
        exact bodyPost_ret (v := .agg #[.int .i64 R.st, .slice A1 R.fs.length c1', .slice A2 R.body.length c2', .slice A3 R.parts.length c3']) (by simp [results, Tryz.results20, go_sem, c0, c1, c2, c3]) rfl (by have h := HD.out.1; rw [HR0.out] at h; exact h)
      · subst hk
        have hS9 := (HS.out.2.1.sm H9.out.1 (fun h => h))
        have c1 := hS9.at 1 (v := .slice AT T.length cT) rfl
        have hsl := hS9.lt
        obtain ⟨t1, t2, t3⟩ := entCells_at hx
        have hTb := own_rowC_at (own_row_sm HS.out.2.2.1 H9.out.1 (fun _ _ h => h))
        obtain ⟨bb, off, hAe, hbb, r0⟩ := hTb.at t1
        subst hAe
        obtain ⟨_, _, hA1, _, r1⟩ := hTb.at t2
        injection hA1 with hA1; injection hA1 with e1 e2; subst e1 e2
        obtain ⟨_, _, hA1, _, r2⟩ := hTb.at t3
        injection hA1 with hA1; injection hA1 with e1 e2; subst e1 e2
        rw [show off + (k * 3 + 1) = off + k * 3 + 1 by omega] at r1
        rw [show off + (k * 3 + 2) = off + k * 3 + 2 by omega] at r2
        have hkl : k < T.length := (List.getElem?_eq_some_iff.1 hx).1
        have k1 : (0 : Int) ≤ (k : Int) := by omega
        have k2 : (k : Int) < (T.length : Int) := by omega
        have k3 : (k : Int) ≤ 40 := by omega
        have n1 : ¬ (10 + (k : Int)) = 1 := by omega
        have n2 : ¬ (10 + (k : Int)) = 2 := by omega
        have n3 : ¬ (10 + (k : Int)) = 3 := by omega
        have hi : (10 + (k : Int)) - 10 = (k : Int) := by omega
        obtain ⟨s1, s2, s3⟩ := HS.out.2.2.2 x (List.mem_of_getElem? hx)
        have HE2 := Lib.hid (show entA x = R from by
          rw [← HE.out]
          unfold idA
          rw [if_neg n1, if_neg n2, if_neg n3, show ((10 + (k : Int)) - 10).toNat = k by omega, hx])
        obtain ⟨xp, xt, xd⟩ := x
        dsimp only at r0 r1 r2 s1 s2 s3 HE2
        clear hS9 t1 t2 t3 hTb hx q69 q79
        go_wp2_with (refine wpList_bytes_own rfl 9 23 5 _ rfl _ rfl Tryz.underlying9 Tryz.underlying23 Tryz.underlying5 w9.heap.size (by simp) (by unfold maxLen; omega) ?_; intro cB w6 hOB hsB hzB; refine RowKit.Hid.out ?_)
        refine Lib.hid ?_
        simp only [World.size_alloc] at hOB
        have hs6 := (H9.out.1.alloc (.cells #[.string xp, .string xt, .string xd] 56)).trans hsB (fun _ _ h => h)
        have hb6 := (H9.out.2.1.alloc (.cells #[.string xp, .string xt, .string xd] 56)).sm hsB (fun h => h)
        have he6 := (Bk.new w9 56 #[.string xp, .string xt, .string xd]).sm hsB (fun h => h)
        have hw6 : w9.heap.size ≤ w6.heap.size := Nat.le_trans (by simp) hsB.size
        have H6 := Lib.hid (And.intro hs6 (And.intro hb6 (And.intro he6 (And.intro hOB hw6))))
        clear hs6 hb6 he6 hOB hw6 hsB hzB r0 r1 r2 c1 hsl
        go_wp2_with fail
        refine (rsok_anyS w6 w9.heap.size H6.out.2.2.2.2 xt _ (txt xd) H6.out.2.2.2.1).mono ?_
        rintro e w7 ⟨vF, vB, rfl, hvF, hvB, hs7⟩
        obtain ⟨A1, c1', rfl, _⟩ := hvF.row
        obtain ⟨nb, hnb⟩ : ∃ nb, (txt xd).length = nb := ⟨_, rfl⟩
        obtain ⟨A2, c2', rfl, _⟩ := hvB.row
        rw [hnb]
        have hvB : ∃ l, txt xd = l ∧ ownsU w7 w9.heap.size 5 1 (.slice A2 nb c2') l.length (byteV l) := ⟨_, rfl, by rw [← hnb]; exact hvB⟩
        obtain ⟨ld, hld, hvB⟩ := hvB
        have he7 := H6.out.2.2.1.sm hs7 (fun h => h)
        have hb7 := H6.out.2.1.sm hs7 (fun h => h)
        have hs7w := H6.out.1.trans hs7 (fun _ _ h => h)
        have e71 := he7.at 1 (v := .string xt) rfl
        have e72 := he7.at 2 (v := .string xd) rfl
        have hel := he7.lt
        have hlt9 : b0 + 1 < w9.heap.size := H9.out.2.1.lt
        have H7 := Lib.hid (And.intro hs7w (And.intro hb7 (And.intro he7 (And.intro hvF (And.intro hvB (And.intro hlt9 (And.intro hnb hld)))))))
        clear hs7 hvF hvB he7 hb7 hs7w hnb hld
        obtain ⟨bp, hbp⟩ : ∃ bp, Lib.hasPrefix (txt xt) sStream = bp := ⟨_, rfl⟩
        have hpre : (bp = false ∧ (6 ≤ xt.size → ((xt.extract 0 6).toList == [115, 116, 114, 101, 97, 109]) = false)) ∨ (bp = true ∧ 6 ≤ xt.size ∧ ((xt.extract 0 6).toList == [115, 116, 114, 101, 97, 109]) = true) := by
          cases bp with
          | false => exact Or.inl ⟨rfl, fun h => (pre6 h).symm.trans hbp⟩
          | true => exact Or.inr ⟨rfl, pre6_le hbp, (pre6 (pre6_le hbp)).symm.trans hbp⟩
        rcases hpre with ⟨rfl, hno⟩ | ⟨rfl, h6, hp6⟩
        · have hbO := Bk.new w7 52 #[.int .i64 200, .slice A1 1 c1', .slice A2 nb c2', .slice none 0 0]
          have hR : RspV (w7.alloc (.cells #[.int .i64 200, .slice A1 1 c1', .slice A2 nb c2', .slice none 0 0] 52)) w9.heap.size (.agg #[.int .i64 200, .slice A1 1 c1', .slice A2 nb c2', .slice none 0 0]) R := by
            rw [← HE2.out]
            unfold entA
            dsimp only
            rw [if_neg (by rw [hbp]; decide), H7.out.2.2.2.2.2.2.2]
            exact ⟨_, _, _, rfl, H7.out.2.2.2.1.no ((Sm.refl No w7).alloc _), H7.out.2.2.2.2.1.no ((Sm.refl No w7).alloc _), ownsU.nil _ _ _ _⟩
          have hb3 := H7.out.2.1.alloc (.cells #[.int .i64 200, .slice A1 1 c1', .slice A2 nb c2', .slice none 0 0] 52)
          have hs3 := H7.out.1.alloc (.cells #[.int .i64 200, .slice A1 1 c1', .slice A2 nb c2', .slice none 0 0] 52)
          have hlt : b0 + 1 < w9.heap.size := H7.out.2.2.2.2.2.1
          by_cases h6 : 6 ≤ xt.size
          · have hp6 := hno h6
            have hp6n : ¬ (xt.extract 0 6).toList = [115, 116, 114, 101, 97, 109] := by simpa using hp6
            have i6 : (6 : Int) ≤ (xt.size : Int) := by omega
            clear hbp hno
            have HD := Lib.hid (ans_done (by rw [HR0.out]; omega) hs3 hb3 hlt hR)
            have hl := hb3.lt
            have f0 := hb3.fz 0
            have f1 := hb3.fz 1
            have f2 := hb3.fz 2
            have f3 := hb3.fz 3
            have d0 := hb3.at 0 rfl
            have d1 := hb3.at 1 rfl
            have d2 := hb3.at 2 rfl
            have d3 := hb3.at 3 rfl
            have o0 := hbO.at 0 (v := .int .i64 200) rfl
            have o1 := hbO.at 1 (v := .slice A1 1 c1') rfl
            have o2 := hbO.at 2 (v := .slice A2 nb c2') rfl
            have o3 := hbO.at 3 (v := .slice none 0 0) rfl
            have hol := hbO.lt
            clear hb3 hs3 hlt hR hbO
            go_wp2_with fail
            have c0 := HD.out.2.at 0 rfl
            have c1 := HD.out.2.at 1 rfl
            have c2 := HD.out.2.at 2 rfl
            have c3 := HD.out.2.at 3 rfl
            exact bodyPost_ret (v := .agg #[.int .i64 200, .slice A1 1 c1', .slice A2 nb c2', .slice none 0 0]) (by simp [results, Tryz.results20, go_sem, c0, c1, c2, c3]) rfl (by have h := HD.out.1; rw [HR0.out] at h; exact h)
          · have i6 : ¬ (6 : Int) ≤ (xt.size : Int) := by omega
            clear hbp hno
            have HD := Lib.hid (ans_done (by rw [HR0.out]; omega) hs3 hb3 hlt hR)
            have hl := hb3.lt
            have f0 := hb3.fz 0
            have f1 := hb3.fz 1
            have f2 := hb3.fz 2
            have f3 := hb3.fz 3
            have d0 := hb3.at 0 rfl
            have d1 := hb3.at 1 rfl
            have d2 := hb3.at 2 rfl
            have d3 := hb3.at 3 rfl
            have o0 := hbO.at 0 (v := .int .i64 200) rfl
            have o1 := hbO.at 1 (v := .slice A1 1 c1') rfl
            have o2 := hbO.at 2 (v := .slice A2 nb c2') rfl
            have o3 := hbO.at 3 (v := .slice none 0 0) rfl
            have hol := hbO.lt
            clear hb3 hs3 hlt hR hbO
            go_wp2_with fail
            have c0 := HD.out.2.at 0 rfl
            have c1 := HD.out.2.at 1 rfl
            have c2 := HD.out.2.at 2 rfl
            have c3 := HD.out.2.at 3 rfl
            exact bodyPost_ret (v := .agg #[.int .i64 200, .slice A1 1 c1', .slice A2 nb c2', .slice none 0 0]) (by simp [results, Tryz.results20, go_sem, c0, c1, c2, c3]) rfl (by have h := HD.out.1; rw [HR0.out] at h; exact h)
        · have hp6n : (xt.extract 0 6).toList = [115, 116, 114, 101, 97, 109] := by simpa using hp6
          have i6 : (6 : Int) ≤ (xt.size : Int) := by omega
          have HBP := Lib.hid hbp
          clear hbp
          go_wp2_with fail
          go_loopw [15] (fun i wr => EnT w7 w7.heap.size (.slice A1 1 c1') (.slice A2 nb c2') xd.size i wr) (fun i _ => xd.size + 32 - (intOf i).toNat)
          case atStart => exact ⟨0, .slice none 0 0, Or.inr rfl, rfl, ownsU.nil _ _ _ _, Bk.new w7 _ _, (Sm.refl No w7).alloc _⟩
          case round =>
            obtain ⟨j, vP, hj, rfl, hO, hbO, hsr⟩ := hrel
            obtain ⟨A3, c3', rfl, _⟩ := hO.row
            have he8 := H7.out.2.2.1.sm hsr (fun h => h)
            have e82 := he8.at 2 (v := .string xd) rfl
            have hel8 := he8.lt
            have hgl := hbO.lt
            have hjz : j ≤ 100000 := by omega
            clear e71 e72 he8
            by_cases hlt : 16 * (j + 1) < xd.size
            · have i0 : (0 : Int) ≤ 16 * ((j : Int) + 1) := by omega
              have i1 : (16 : Int) * ((j : Int) + 1) < (xd.size : Int) := by omega
              have i2 : (16 : Int) * ((j : Int) + 1) ≤ 1000000 := by omega
              have hmn : min (16 * (j + 1)) xd.size = 16 * (j + 1) := by omega
              have r3 := hbO.at 3 (v := .slice A3 j c3') rfl
              have HO := Lib.hid (And.intro hO (And.intro hbO (And.intro hsr (And.intro hmn hlt))))
              clear hO hbO hsr hmn
              go_wp2_with (refine wpList_pushU rfl _ _ 50 3 rfl Tryz.underlying50 _ 1 8 infoI8 rfl (by decide) (by decide) (w7.heap.size + 1) j _ _ rfl (HO.out.1.no ((Sm.refl No wr).alloc _)) ⟨wr.heap.size, 0, none⟩ 1 1 [.int .i64 (16 * ((j : Int) + 1))] rfl rfl (rowC_bk (Bk.new wr _ _)) (by simp [Value.oneCell']) (by omega) (by simp; omega) ?_; intro v' w5 hown5 hs5 _; obtain ⟨A5, c5, rfl, _⟩ := hown5.row; have hb5 := (HO.out.2.1.alloc (.cells #[.int .i64 (16 * ((j : Int) + 1))] 3)).sm hs5 (fun e => by have := (HO.out.1.lt _ e).1; omega); have d5 := hb5.at 3 rfl; have f5 := hb5.fz 3; have l5 := hb5.lt; have H5 := Lib.hid (And.intro hown5 hs5); refine RowKit.Hid.out ?_)
              refine Lib.hid ?_
              clear hown5 hs5 hb5 r3 e82
              go_wp2_with fail
              obtain ⟨j', vP', _, h2, h3, h4, h5⟩ := EnR.push (b := .int .i64 (16 * (((j + 1 : Nat) : Int) + 1))) rfl (show j < (xd.size + 15) / 16 by have := HO.out.2.2.2.2; omega) HO.out.1 HO.out.2.1 HO.out.2.2.1 (by rw [HO.out.2.2.2.1, show ((16 * (j + 1) : Nat) : Int) = 16 * ((j : Int) + 1) by omega]; exact H5.out.1) H5.out.2 rfl
              have hjj : j' = j + 1 := by injection h2 with _ h2; omega
              subst hjj
              exact ⟨⟨j + 1, vP', Or.inl HO.out.2.2.2.2, by rw [show (16 : Int) * ((j : Int) + 1) + 16 = 16 * (((j + 1 : Nat) : Int) + 1) by omega], h3, h4, h5⟩, by simp [intOf]; omega⟩
            · have i1 : ¬ (16 : Int) * ((j : Int) + 1) < (xd.size : Int) := by omega
              by_cases hn : xd.size = 0
              · have i2 : ¬ (0 : Int) < (xd.size : Int) := by omega
                have hj2 : j = (xd.size + 15) / 16 := by omega
                have hR : RspV wr w9.heap.size (.agg #[.int .i64 200, .slice A1 1 c1', .slice A2 nb c2', .slice A3 j c3']) R := by
                  rw [← HE2.out]
                  unfold entA
                  dsimp only
                  rw [if_pos HBP.out, H7.out.2.2.2.2.2.2.2]
                  refine ⟨_, _, _, rfl, H7.out.2.2.2.1.no hsr, H7.out.2.2.2.2.1.no hsr, ?_⟩
                  have h := hO.base (C := w9.heap.size) (fun b e => by have := (hO.lt b e).1; omega)
                  rw [parts_all _ _ hj2] at h
                  have e : (partsL xd.size).length = j := by rw [parts_len]; omega
                  show ownsU wr _ _ 1 _ (partsL xd.size).length _
                  rw [e]
                  exact h
                have hb3 := H7.out.2.1.sm hsr (fun h => h)
                have hs3 := H7.out.1.trans hsr (fun _ _ h => h)
                have hlt : b0 + 1 < w9.heap.size := H7.out.2.2.2.2.2.1
                clear hO hsr hj2
                have HD := Lib.hid (ans_done (by rw [HR0.out]; omega) hs3 hb3 hlt hR)
                have hl := hb3.lt
                have f0 := hb3.fz 0
                have f1 := hb3.fz 1
                have f2 := hb3.fz 2
                have f3 := hb3.fz 3
                have d0 := hb3.at 0 rfl
                have d1 := hb3.at 1 rfl
                have d2 := hb3.at 2 rfl
                have d3 := hb3.at 3 rfl
                have o0 := hbO.at 0 (v := .int .i64 200) rfl
                have o1 := hbO.at 1 (v := .slice A1 1 c1') rfl
                have o2 := hbO.at 2 (v := .slice A2 nb c2') rfl
                have o3 := hbO.at 3 (v := .slice A3 j c3') rfl
                have hol := hbO.lt
                clear hb3 hs3 hlt hR hbO
                go_wp2_with fail
                have c0 := HD.out.2.at 0 rfl
                have c1 := HD.out.2.at 1 rfl
                have c2 := HD.out.2.at 2 rfl
                have c3 := HD.out.2.at 3 rfl
                exact bodyPost_ret (v := .agg #[.int .i64 200, .slice A1 1 c1', .slice A2 nb c2', .slice A3 j c3']) (by simp [results, Tryz.results20, go_sem, c0, c1, c2, c3]) rfl (by have h := HD.out.1; rw [HR0.out] at h; exact h)
              · have i2 : (0 : Int) < (xd.size : Int) := by omega
                have hj2 : j < (xd.size + 15) / 16 := by omega
                have hj3 : j + 1 = (xd.size + 15) / 16 := by omega
                have hmn : min (16 * (j + 1)) xd.size = xd.size := by omega
                have r3 := hbO.at 3 (v := .slice A3 j c3') rfl
                have HO := Lib.hid (And.intro hO (And.intro hbO (And.intro hsr (And.intro hmn (And.intro hj2 hj3)))))
                have hbr := H7.out.2.1.sm hsr (fun h => h)
                have HB := Lib.hid hbr
                have hne : b0 + 1 < w7.heap.size := H7.out.2.1.lt
                clear hO hbO hsr hmn hj2 hj3 hbr
                go_wp2_with (refine wpList_pushU rfl _ _ 50 3 rfl Tryz.underlying50 _ 1 8 infoI8 rfl (by decide) (by decide) (w7.heap.size + 1) j _ _ rfl (HO.out.1.no ((Sm.refl No wr).alloc _)) ⟨wr.heap.size, 0, none⟩ 1 1 [.int .i64 (xd.size : Int)] rfl rfl (rowC_bk (Bk.new wr _ _)) (by simp [Value.oneCell']) (by omega) (by simp; omega) ?_; intro v' w5 hown5 hs5 _; obtain ⟨A5, c5, rfl, _⟩ := hown5.row; have hb5 := (HO.out.2.1.alloc (.cells #[.int .i64 (xd.size : Int)] 3)).sm hs5 (fun e => by have := (HO.out.1.lt _ e).1; omega); have o0 := hb5.at 0 (v := .int .i64 200) rfl; have o1 := hb5.at 1 (v := .slice A1 1 c1') rfl; have o2 := hb5.at 2 (v := .slice A2 nb c2') rfl; have d5 := hb5.at 3 rfl; have f5 := hb5.fz 3; have l5 := hb5.lt; have H5 := Lib.hid (And.intro hown5 hs5); have hbr5 := (HB.out.alloc (.cells #[.int .i64 (xd.size : Int)] 3)).sm hs5 (fun e => by have := (HO.out.1.lt _ e).1; omega); have d0 := hbr5.at 0 rfl; have d1 := hbr5.at 1 rfl; have d2 := hbr5.at 2 rfl; have d3 := hbr5.at 3 rfl; have f0 := hbr5.fz 0; have f1 := hbr5.fz 1; have f2 := hbr5.fz 2; have f3 := hbr5.fz 3; have HB5 := Lib.hid hbr5; have hl5 := hbr5.lt; refine RowKit.Hid.out ?_)
                refine Lib.hid ?_
                clear hown5 hs5 hb5 r3 e82 hbr5
                have n1 : ¬ b0 + 1 = w7.heap.size := by omega
                have n2 : ¬ w7.heap.size = b0 + 1 := by omega
                go_wp2_with fail
                have h6 : Sm (fun b => b = w7.heap.size) w5 (w5.setCell ⟨w7.heap.size, 3, none⟩ (.slice A5 (j + 1) c5)) := (Sm.refl _ w5).set1 3 _
                have hOS := H5.out.1.sm h6 (fun b e1 e2 => by have := (H5.out.1.lt b e1).1; omega)
                have hsS : Sm No w7 (w5.setCell ⟨w7.heap.size, 3, none⟩ (.slice A5 (j + 1) c5)) := ((HO.out.2.2.1.alloc (.cells #[.int .i64 (xd.size : Int)] 3)).fresh H5.out.2 (fun b e => by have := (HO.out.1.lt b e).1; omega)).fresh h6 (fun b e => by omega)
                have hb3 := HB5.out.sm h6 (fun e => by omega)
                have hR : RspV (w5.setCell ⟨w7.heap.size, 3, none⟩ (.slice A5 (j + 1) c5)) w9.heap.size (.agg #[.int .i64 200, .slice A1 1 c1', .slice A2 nb c2', .slice A5 (j + 1) c5]) R := by
                  rw [← HE2.out]
                  unfold entA
                  dsimp only
                  rw [if_pos HBP.out, H7.out.2.2.2.2.2.2.2]
                  refine ⟨_, _, _, rfl, H7.out.2.2.2.1.no hsS, H7.out.2.2.2.2.1.no hsS, ?_⟩
                  have h := hOS.base (C := w9.heap.size) (fun b e => by have := (hOS.lt b e).1; omega)
                  have e2 : intsV ((partsL xd.size).take j) ++ [.int .i64 (xd.size : Int)] = intsV (partsL xd.size) := by
                    have e3 := parts_take _ _ HO.out.2.2.2.2.1
                    rw [HO.out.2.2.2.1, parts_all _ _ HO.out.2.2.2.2.2] at e3
                    rw [← intsV_snoc, ← e3]
                  rw [e2] at h
                  have e : (partsL xd.size).length = j + 1 := by rw [parts_len]; exact HO.out.2.2.2.2.2.symm
                  show ownsU _ _ _ 1 _ (partsL xd.size).length _
                  rw [e]
                  exact h
                have HD := Lib.hid (ans_done (by rw [HR0.out]; omega) (H7.out.1.trans hsS (fun _ _ h => h)) hb3 H7.out.2.2.2.2.2.1 hR)
                have c0 := HD.out.2.at 0 rfl
                have c1 := HD.out.2.at 1 rfl
                have c2 := HD.out.2.at 2 rfl
                have c3 := HD.out.2.at 3 rfl
                exact bodyPost_ret (v := .agg #[.int .i64 200, .slice A1 1 c1', .slice A2 nb c2', .slice A5 (j + 1) c5]) (by simp [results, Tryz.results20, go_sem, c0, c1, c2, c3]) rfl (by have h := HD.out.1; rw [HR0.out] at h; exact h)
set_option maxRecDepth 100000 in
set_option maxHeartbeats 16000000 in
theorem rserve_1 (w : World) (hg : G1 w) (O : Nat → Prop) (s : Nat) (T : List Ent) (h : IsSiteX w O s T) (hc : siteC T = 0) (hsm : SmallE T) (q : Rq) (A : Option Addr) (c : Nat) (B : Option Addr) (d : Nat) (hq : RqOk w q A c B d) (hf : ¬ q.form = 4) (hf3 : ¬ q.form = 3) (hm4 : txt q.m ∈ m4) (g1 : (q.m.toList == [71, 69, 84]) = false) (g2 : (q.m.toList == [72, 69, 65, 68]) = true) :
    Calls Tryz.prog 20 #[.pointer (some ⟨s, 0, none⟩), reqV q A c B d] w (AnsPost w w.heap.size (serveL T q)) := by
  have hT := table_40 hc
  obtain ⟨Q, AT, cT, v0, hR, hE, hS⟩ := h.parts
  obtain ⟨m, form, host, path, query, minor, fs, body, close, expect⟩ := q
  have HQ := Lib.hid hq
  dsimp only at hf hf3 hm4 g1 g2
  have HS := Lib.hid (And.intro hR (And.intro hS (And.intro hE hsm)))
  have HG := Lib.hid hg
  clear hR hS hE hsm hg hq h
  unfold reqV
  dsimp only at HQ ⊢
  obtain ⟨R, hRR⟩ : ∃ R, serveL T ⟨m, form, host, path, query, minor, fs, body, close, expect⟩ = R := ⟨_, rfl⟩
  rw [hRR]
  have HRR := Lib.hid hRR
  clear hRR
  obtain ⟨b0, hb0⟩ : ∃ b0, w.heap.size = b0 := ⟨_, rfl⟩
  have HR0 := Lib.hid hb0
  rw [hb0]
  clear hb0
  go_enter Tryz.func20, Tryz.ntmps20
  have HM := Lib.hid (fun (h : txt m ∉ m4) => h hm4)
  have g0 : (form == 3) = false := by rw [beq_eq_false_iff_ne]; exact hf3
  clear hm4
  go_wp2_with fail
  rw [HR0.out]
  obtain ⟨w1, hw1⟩ : ∃ w1, (w.alloc (.cells #[.string m, .int .i64 form, .string host, .string path, .string query, .int .i64 minor, .slice A fs.length c, .slice B body.length d, .bool close, .bool expect] 29)).alloc (.cells #[.int .i64 0, .slice none 0 0, .slice none 0 0, .slice none 0 0] 52) = w1 := ⟨_, rfl⟩
  rw [hw1]
  have hs1 : Sm No w w1 := by rw [← hw1]; exact ((Sm.refl No w).alloc _).alloc _
  have hbq : Bk w1 b0 29 #[.string m, .int .i64 form, .string host, .string path, .string query, .int .i64 minor, .slice A fs.length c, .slice B body.length d, .bool close, .bool expect] := by rw [← hw1, ← HR0.out]; exact (Bk.new w _ _).alloc _
  have hbr : Bk w1 (b0 + 1) 52 #[.int .i64 0, .slice none 0 0, .slice none 0 0, .slice none 0 0] := by rw [← hw1]; exact Bk.newAt _ _ _ (by rw [← HR0.out]; simp)
  have hz1 : b0 + 1 + 1 = w1.heap.size := by rw [← hw1, ← HR0.out]; simp
  have H1 := Lib.hid (And.intro hs1 (And.intro hbq hbr))
  clear hs1 hbq hbr hw1
  have hno : ¬ (form = 3 ∨ txt m ∉ m4) := fun h => by
    rcases h with h | h
    · exact hf3 h
    · exact HM.out h
  have hm2 := serve_m HRR.out hf hno
  have hms := (match_site T (txt m) (txt path)).resolve_right (by omega)
  have hMP := fun (W : World) (hW : IsTwin 75 [.slice AT T.length cT] W Q s (routesL T)) => rmatch_any W Q s (routesL T) m path hW (by rw [routes_len]; omega) (fine_pats hT hc) (fun x hx => (fine_routes hT).2 x hx) (by have := HQ.out.2.2.2.2.2.1; dsimp only at this; omega)
  unfold MatchPost at hMP
  dsimp only at hm2
  obtain ⟨⟨i, rest, al, st⟩, hM⟩ : ∃ M, matchL (routesL T) (txt m) (txt path) = M := ⟨_, rfl⟩
  rw [hM] at hm2 hms
  simp only [hM] at hMP
  obtain ⟨rb, hrb⟩ : ∃ rb : ByteArray, strB rest = .string rb := ⟨_, rfl⟩
  rw [hrb] at hMP
  dsimp only at hm2 hms
  have HMP := Lib.hid hMP
  have HM2 := Lib.hid hm2
  have HMS := Lib.hid hms
  clear hm2 hms hMP hM hrb hno
  have q3 := H1.out.2.1.at 3 (v := .string path) rfl
  have hql := H1.out.2.1.lt
  go_wp2_with fail
  go_region_held3 (fun w' => w'.cell? ⟨b0, 3, none⟩ = some (.string path)) (first | exact q3 | exact q39 | go_keep)
    ((go_at_call 50; (with_reducible refine (HMP.out _ (HS.out.1.no (H1.out.1.drew))).mono ?_); rintro e w9 ⟨v9, rfl, hv9, hs9⟩; have q39 := hs9.cell hql q3))
  all_goals
    obtain ⟨AV, cV, rfl, hrV, hcV, _⟩ := own_rowC hv9
    have hs19 : Sm No w w9 := H1.out.1.drew.trans hs9 (fun _ _ h => h)
    have hbr9 := H1.out.2.2.drew.sm hs9 (fun h => h)
    have hbq9 := H1.out.2.1.drew.sm hs9 (fun h => h)
    have H9 := Lib.hid (And.intro hs19 (And.intro hbr9 (And.intro hbq9 (And.intro hrV hcV))))
    have q69 := hbq9.at 6 (v := .slice A fs.length c) rfl
    have q79 := hbq9.at 7 (v := .slice B body.length d) rfl
    have hql := hbq9.lt
    clear hs9 hv9 hs19 hbr9 hbq9 hrV hcV q39 q3
    rcases HMS.out with h404 | ⟨h405, hsml⟩ | ⟨h200, hid⟩
    · subst h404
      have HE := Lib.hid (show cannedL 404 [] = R from by have e := HM2.out; rw [if_pos rfl] at e; exact e)
      go_wp2_with fail
      refine (rCanned_any w9 (HG.out.no (H9.out.1)) 404 (by decide) (by decide) none 0 [] (fun k hk => by cases hk) (fun _ => ⟨rfl, rfl⟩) (by decide)).mono ?_
      rintro e w3 ⟨v, rfl, hR, hs3⟩
      have hb3 := (H9.out.2.1).sm hs3 (fun h => h)
      have hs3 := (H9.out.1).trans hs3 (fun _ _ h => h)
      have hlt : b0 + 1 < w9.heap.size := (H9.out.2.1).lt
      rw [show cannedL 404 [] = R from HE.out] at hR
      obtain ⟨vF, vB, vP, rfl, hFF, hB, hP⟩ := hR
      obtain ⟨A1, c1', rfl, _⟩ := hFF.row
      obtain ⟨A2, c2', rfl, _⟩ := hB.row
      obtain ⟨A3, c3', rfl, _⟩ := hP.row
      have HD := Lib.hid (ans_done (by rw [HR0.out]; omega) hs3 hb3 hlt ⟨_, _, _, rfl, hFF, hB, hP⟩)
      have hl := hb3.lt
      have f0 := hb3.fz 0
      have f1 := hb3.fz 1
      have f2 := hb3.fz 2
      have f3 := hb3.fz 3
      have d0 := hb3.at 0 rfl
      have d1 := hb3.at 1 rfl
      have d2 := hb3.at 2 rfl
      have d3 := hb3.at 3 rfl
      clear hFF hB hP hb3 hs3 hlt
      go_wp2_with fail
      have c0 := HD.out.2.at 0 rfl
      have c1 := HD.out.2.at 1 rfl
      have c2 := HD.out.2.at 2 rfl
      have c3 := HD.out.2.at 3 rfl
      exact bodyPost_ret (v := .agg #[.int .i64 R.st, .slice A1 R.fs.length c1', .slice A2 R.body.length c2', .slice A3 R.parts.length c3']) (by simp [results, Tryz.results20, go_sem, c0, c1, c2, c3]) rfl (by have h := HD.out.1; rw [HR0.out] at h; exact h)
    · subst h405
      by_cases hO : txt m = OPTS
      · have e1 : (m.toList == [79, 80, 84, 73, 79, 78, 83]) = true := by rw [beq_txt]; exact decide_eq_true hO
        have e2 : m.toList = [79, 80, 84, 73, 79, 78, 83] := by simpa using e1
        obtain ⟨fa, hfa⟩ : ∃ fa, (allowF al).1 = fa := ⟨_, rfl⟩
        obtain ⟨fb, hfb⟩ : ∃ fb, (allowF al).2 = fb := ⟨_, rfl⟩
        have HE := Lib.hid (show cannedL 204 [(fa, fb)] = R from by have e := HM2.out; rw [if_neg (by decide), if_pos rfl, if_pos hO] at e; rw [← hfa, ← hfb]; exact e)
        have HAL := Lib.hid (rsallow_any w9 AV cV al H9.out.2.2.2.1 hsml)
        rw [hfa, hfb] at HAL
        clear hfa hfb
        go_wp2_with fail
        refine HAL.out.mono ?_
        rintro e w10 ⟨rfl, hs10⟩
        have H10 := Lib.hid (And.intro (H9.out.1.trans hs10 (fun _ _ h => h)) (H9.out.2.1.sm hs10 (fun h => h)))
        clear hs10 HAL
        go_wp2_with fail
        refine (rCanned_any (w10.alloc (.cells #[.string fa, .string fb] 65)) (HG.out.no (H10.out.1.alloc _)) 204 (by decide) (by decide) (some ⟨w10.heap.size, 0, none⟩) 1 [(fa, fb)] (fRow_one (Bk.new w10 _ _)) (fun e => by cases e) (by simp)).mono ?_
        rintro e w3 ⟨v, rfl, hR, hs3⟩
        have hb3 := ((H10.out.2).alloc (.cells #[.string fa, .string fb] 65)).sm hs3 (fun h => h)
        have hs3 := ((H10.out.1).alloc (.cells #[.string fa, .string fb] 65)).trans hs3 (fun _ _ h => h)
        have hlt : b0 + 1 < (w10.alloc (.cells #[.string fa, .string fb] 65)).heap.size := Nat.lt_of_lt_of_le (H10.out.2).lt (by simp)
        rw [HE.out] at hR
        obtain ⟨vF, vB, vP, rfl, hFF, hB, hP⟩ := hR
        obtain ⟨A1, c1', rfl, _⟩ := hFF.row
        obtain ⟨A2, c2', rfl, _⟩ := hB.row
        obtain ⟨A3, c3', rfl, _⟩ := hP.row
        have HD := Lib.hid (ans_done (by rw [HR0.out]; omega) hs3 hb3 hlt ⟨_, _, _, rfl, hFF, hB, hP⟩)
        have hl := hb3.lt
        have f0 := hb3.fz 0
        have f1 := hb3.fz 1
        have f2 := hb3.fz 2
        have f3 := hb3.fz 3
        have d0 := hb3.at 0 rfl
        have d1 := hb3.at 1 rfl
        have d2 := hb3.at 2 rfl
        have d3 := hb3.at 3 rfl
        clear hFF hB hP hb3 hs3 hlt
        go_wp2_with fail
        have c0 := HD.out.2.at 0 rfl
        have c1 := HD.out.2.at 1 rfl
        have c2 := HD.out.2.at 2 rfl
        have c3 := HD.out.2.at 3 rfl
        exact bodyPost_ret (v := .agg #[.int .i64 R.st, .slice A1 R.fs.length c1', .slice A2 R.body.length c2', .slice A3 R.parts.length c3']) (by simp [results, Tryz.results20, go_sem, c0, c1, c2, c3]) rfl (by have h := HD.out.1; rw [HR0.out] at h; exact h)
      · have e1 : (m.toList == [79, 80, 84, 73, 79, 78, 83]) = false := by rw [beq_txt]; exact decide_eq_false hO
        have e2 : ¬ m.toList = [79, 80, 84, 73, 79, 78, 83] := by simpa using e1
        obtain ⟨fa, hfa⟩ : ∃ fa, (allowF al).1 = fa := ⟨_, rfl⟩
        obtain ⟨fb, hfb⟩ : ∃ fb, (allowF al).2 = fb := ⟨_, rfl⟩
        have HE := Lib.hid (show cannedL 405 [(fa, fb)] = R from by have e := HM2.out; rw [if_neg (by decide), if_pos rfl, if_neg hO] at e; rw [← hfa, ← hfb]; exact e)
        have HAL := Lib.hid (rsallow_any w9 AV cV al H9.out.2.2.2.1 hsml)
        rw [hfa, hfb] at HAL
        clear hfa hfb
        go_wp2_with fail
        refine HAL.out.mono ?_
        rintro e w10 ⟨rfl, hs10⟩
        have H10 := Lib.hid (And.intro (H9.out.1.trans hs10 (fun _ _ h => h)) (H9.out.2.1.sm hs10 (fun h => h)))
        clear hs10 HAL
        go_wp2_with fail
        refine (rCanned_any (w10.alloc (.cells #[.string fa, .string fb] 65)) (HG.out.no (H10.out.1.alloc _)) 405 (by decide) (by decide) (some ⟨w10.heap.size, 0, none⟩) 1 [(fa, fb)] (fRow_one (Bk.new w10 _ _)) (fun e => by cases e) (by simp)).mono ?_
        rintro e w3 ⟨v, rfl, hR, hs3⟩
        have hb3 := ((H10.out.2).alloc (.cells #[.string fa, .string fb] 65)).sm hs3 (fun h => h)
        have hs3 := ((H10.out.1).alloc (.cells #[.string fa, .string fb] 65)).trans hs3 (fun _ _ h => h)
        have hlt : b0 + 1 < (w10.alloc (.cells #[.string fa, .string fb] 65)).heap.size := Nat.lt_of_lt_of_le (H10.out.2).lt (by simp)
        rw [HE.out] at hR
        obtain ⟨vF, vB, vP, rfl, hFF, hB, hP⟩ := hR
        obtain ⟨A1, c1', rfl, _⟩ := hFF.row
        obtain ⟨A2, c2', rfl, _⟩ := hB.row
        obtain ⟨A3, c3', rfl, _⟩ := hP.row
        have HD := Lib.hid (ans_done (by rw [HR0.out]; omega) hs3 hb3 hlt ⟨_, _, _, rfl, hFF, hB, hP⟩)
        have hl := hb3.lt
        have f0 := hb3.fz 0
        have f1 := hb3.fz 1
        have f2 := hb3.fz 2
        have f3 := hb3.fz 3
        have d0 := hb3.at 0 rfl
        have d1 := hb3.at 1 rfl
        have d2 := hb3.at 2 rfl
        have d3 := hb3.at 3 rfl
        clear hFF hB hP hb3 hs3 hlt
        go_wp2_with fail
        have c0 := HD.out.2.at 0 rfl
        have c1 := HD.out.2.at 1 rfl
        have c2 := HD.out.2.at 2 rfl
        have c3 := HD.out.2.at 3 rfl
        exact bodyPost_ret (v := .agg #[.int .i64 R.st, .slice A1 R.fs.length c1', .slice A2 R.body.length c2', .slice A3 R.parts.length c3']) (by simp [results, Tryz.results20, go_sem, c0, c1, c2, c3]) rfl (by have h := HD.out.1; rw [HR0.out] at h; exact h)
    · subst h200
      have HE := Lib.hid (show idA T ⟨m, form, host, path, query, minor, fs, body, close, expect⟩ i = R from by have e := HM2.out; rw [if_neg (by decide), if_neg (by decide)] at e; exact e)
      rcases hid with h1 | h2 | h3 | ⟨k, x, hx, hk⟩
      · subst h1
        have hsh : Short fs := fun y hy => ⟨by have := (HQ.out.2.2.2.2.2.2.2.1 y hy).1; omega, by have := (HQ.out.2.2.2.2.2.2.2.1 y hy).2; omega⟩
        have hgl : (getL (addL [] fs).1 (txtB sCT)).length ≤ 900000 ∨ 24 < (addL [] fs).1.length := by
          by_cases h24 : 24 < (addL [] fs).1.length
          · exact Or.inr h24
          · exact Or.inl (getL_le (fun y hy => by
              rcases addL_mem fs [] y hy with g | ⟨g, _⟩
              · cases g
              · exact (HQ.out.2.2.2.2.2.2.2.1 y g).2) (by omega))
        have HSh := Lib.hid (And.intro (short_addL hsh) hgl)
        have HAd := Lib.hid (rAdd_any (w9.alloc (.cells #[.slice none 0 0] 88)) w9.heap.size w9.heap.size (.slice none 0 0) [] fs A c
          ⟨Bk.new w9 _ _, World.ownsRow_nil _ _ _ _, by simp [Value.ownBlock]⟩ (by decide) ((HQ.out.1.no H9.out.1).no ((Sm.refl No w9).alloc _))
          (fun h0 a ha ht => by
            obtain ⟨bb, off, hAe, hb, _⟩ := (HQ.out.1.no H9.out.1) 0 h0
            rw [ha] at hAe
            injection hAe with hAe
            subst hAe
            rcases ht with ht | ht
            · have ht : bb = w9.heap.size := ht
              omega
            · cases ht) hsh (by have := HQ.out.2.2.2.2.2.2.2.2.1; dsimp only at this; omega) (by simp))
        clear hsh hgl
        go_wp2_with fail
        refine HAd.out.mono ?_
        rintro e w10 ⟨v10, rfl, hF10, hl10, hs10, _⟩
        have hs10 : Sm No w9 w10 := ((Sm.refl No w9).alloc (.cells #[.slice none 0 0] 88)).fresh hs10 (fun b hb => by
          rcases hb with hb | hb
          · omega
          · cases hb)
        have HF10 := Lib.hid (And.intro hF10 hs10)
        have hgl := HSh.out.2.resolve_right (by omega)
        clear hF10 hs10 HAd
        go_wp2_with fail
        refine (rGet_any w10 _ _ v10 _ (txtB sCT) HF10.out.1 hl10 HSh.out.1 (by decide)).mono ?_
        rintro e w11 ⟨gt, hgt2, rfl, hs11⟩
        have hgs : gt.size ≤ 900000 := by
          have : gt.data.toList.length ≤ 900000 := by rw [hgt2]; exact hgl
          simpa using this
        obtain ⟨tr, htr⟩ : ∃ tr : ByteArray, (⟨(trimL gt.data.toList).toArray⟩ : ByteArray) = tr := ⟨_, rfl⟩
        have HTr := Lib.hid htr
        have HS11 := Lib.hid (And.intro (HF10.out.2.trans hs11 (fun _ _ h => h)) (And.intro hgt2 hgs))
        clear hgt2 hgl hs11 htr
        go_wp2_with fail
        refine (rTrim_say HTr (by omega) w11).mono ?_
        rintro e w12 ⟨rfl, hs12⟩
        have hs912 : Sm No w9 w12 := by rw [← hs12]; exact HS11.out.1
        have hb12 := H9.out.2.2.1.sm hs912 (fun h => h)
        have q79 := hb12.at 7 (v := .slice B body.length d) rfl
        have hql := hb12.lt
        have H12 := Lib.hid (And.intro hs912 hb12)
        clear hs12 hs912 hb12 q69
        have htr : txt tr = trimL (getL (addL [] fs).1 (txtB sCT)) := by rw [← HTr.out, HS11.out.2.1]; rfl
        by_cases hz : tr.size = 0
        · have htz : txt tr = [] := List.eq_nil_of_length_eq_zero (by rw [txt_len]; exact hz)
          have e2 : tr.toList = [] := by rw [ByteArray.toList_eq]; exact htz
          have HE2 := Lib.hid (show okL (txtB sOctet) body = R from by
            rw [← HE.out]
            unfold idA typeL
            rw [if_pos rfl, if_pos (htr.symm.trans htz)])
          clear htr htz
          go_wp2_with (refine wpList_push_opt rfl _ _ 23 5 rfl Tryz.underlying23 _ 1 1 infoU8 rfl (by decide) (by decide) w12.heap.size 0 _ [] rfl (own_empty w12 _ _ (Nat.le_refl _)) B body.length d (byteV body) rfl HQ.out.2.2.2.1 (by rw [byteV_len, Nat.mul_one]) ((HQ.out.2.2.1.no (H9.out.1.trans H12.out.1 (fun _ _ h => h))).no ((Sm.refl No w12).alloc _)) (byteV_one body) (by have := HQ.out.2.2.2.2.2.2.2.2.2; dsimp only at this; omega) (by simp) ?_; intro vb w13 hown hs13 _; refine RowKit.Hid.out ?_)
          refine Lib.hid ?_
          have hvb : OwnB w13 w12.heap.size 5 vb body := by
            have h := ownsU.of hown
            rw [Nat.zero_add, List.nil_append] at h
            exact h
          have hs13 : Sm No w12 w13 := ((Sm.refl No w12).alloc (.cells #[] 5)).fresh hs13 (fun b hb => by
            have hb : some w12.heap.size = some b := hb
            injection hb with hb
            omega)
          have HS13 := Lib.hid (And.intro hvb hs13)
          clear hown hvb hs13
          obtain ⟨vA, vc, rfl, _⟩ := HS13.out.1.row
          go_wp2_with fail
          refine (rsok_any w13 w12.heap.size HS13.out.2.size (txtB sOctet) _ body HS13.out.1).mono ?_
          rintro e w3 ⟨v, rfl, hR, hs3⟩
          have hb3 := ((H9.out.2.1.sm H12.out.1 (fun h => h)).sm HS13.out.2 (fun h => h)).sm hs3 (fun h => h)
          have hlt : b0 + 1 < w12.heap.size := (H9.out.2.1.sm H12.out.1 (fun h => h)).lt
          have hs3 := ((H9.out.1.trans H12.out.1 (fun _ _ h => h)).trans HS13.out.2 (fun _ _ h => h)).trans hs3 (fun _ _ h => h)
          rw [HE2.out] at hR
          obtain ⟨vF, vB, vP, rfl, hFF, hB, hP⟩ := hR
          obtain ⟨A1, c1', rfl, _⟩ := hFF.row
          obtain ⟨A2, c2', rfl, _⟩ := hB.row
          obtain ⟨A3, c3', rfl, _⟩ := hP.row
          have HD := Lib.hid (ans_done (by rw [HR0.out]; omega) hs3 hb3 hlt ⟨_, _, _, rfl, hFF, hB, hP⟩)
          have hl := hb3.lt
          have f0 := hb3.fz 0
          have f1 := hb3.fz 1
          have f2 := hb3.fz 2
          have f3 := hb3.fz 3
          have d0 := hb3.at 0 rfl
          have d1 := hb3.at 1 rfl
          have d2 := hb3.at 2 rfl
          have d3 := hb3.at 3 rfl
          clear hFF hB hP hb3 hs3 hlt
          go_wp2_with fail
          have c0 := HD.out.2.at 0 rfl
          have c1 := HD.out.2.at 1 rfl
          have c2 := HD.out.2.at 2 rfl
          have c3 := HD.out.2.at 3 rfl
          exact bodyPost_ret (v := .agg #[.int .i64 R.st, .slice A1 R.fs.length c1', .slice A2 R.body.length c2', .slice A3 R.parts.length c3']) (by simp [results, Tryz.results20, go_sem, c0, c1, c2, c3]) rfl (by have h := HD.out.1; rw [HR0.out] at h; exact h)
        · have htz : ¬ txt tr = [] := fun e => hz (by rw [← txt_len, e]; rfl)
          have e2 : ¬ tr.toList = [] := by rw [ByteArray.toList_eq]; exact htz
          have e2b : tr.toList.isEmpty = false := by
            cases h : tr.toList with
            | nil => exact absurd h e2
            | cons => rfl
          have HE2 := Lib.hid (show okL tr body = R from by
            rw [← HE.out]
            unfold idA typeL
            rw [if_pos rfl, if_neg (fun e => htz (htr.trans e)), ← htr]
            rfl)
          clear htr htz
          go_wp2_with (refine wpList_push_opt rfl _ _ 23 5 rfl Tryz.underlying23 _ 1 1 infoU8 rfl (by decide) (by decide) w12.heap.size 0 _ [] rfl (own_empty w12 _ _ (Nat.le_refl _)) B body.length d (byteV body) rfl HQ.out.2.2.2.1 (by rw [byteV_len, Nat.mul_one]) ((HQ.out.2.2.1.no (H9.out.1.trans H12.out.1 (fun _ _ h => h))).no ((Sm.refl No w12).alloc _)) (byteV_one body) (by have := HQ.out.2.2.2.2.2.2.2.2.2; dsimp only at this; omega) (by simp) ?_; intro vb w13 hown hs13 _; refine RowKit.Hid.out ?_)
          refine Lib.hid ?_
          have hvb : OwnB w13 w12.heap.size 5 vb body := by
            have h := ownsU.of hown
            rw [Nat.zero_add, List.nil_append] at h
            exact h
          have hs13 : Sm No w12 w13 := ((Sm.refl No w12).alloc (.cells #[] 5)).fresh hs13 (fun b hb => by
            have hb : some w12.heap.size = some b := hb
            injection hb with hb
            omega)
          have HS13 := Lib.hid (And.intro hvb hs13)
          clear hown hvb hs13
          obtain ⟨vA, vc, rfl, _⟩ := HS13.out.1.row
          go_wp2_with fail
          refine (rsok_any w13 w12.heap.size HS13.out.2.size tr _ body HS13.out.1).mono ?_
          rintro e w3 ⟨v, rfl, hR, hs3⟩
          have hb3 := ((H9.out.2.1.sm H12.out.1 (fun h => h)).sm HS13.out.2 (fun h => h)).sm hs3 (fun h => h)
          have hlt : b0 + 1 < w12.heap.size := (H9.out.2.1.sm H12.out.1 (fun h => h)).lt
          have hs3 := ((H9.out.1.trans H12.out.1 (fun _ _ h => h)).trans HS13.out.2 (fun _ _ h => h)).trans hs3 (fun _ _ h => h)
          rw [HE2.out] at hR
          obtain ⟨vF, vB, vP, rfl, hFF, hB, hP⟩ := hR
          obtain ⟨A1, c1', rfl, _⟩ := hFF.row
          obtain ⟨A2, c2', rfl, _⟩ := hB.row
          obtain ⟨A3, c3', rfl, _⟩ := hP.row
          have HD := Lib.hid (ans_done (by rw [HR0.out]; omega) hs3 hb3 hlt ⟨_, _, _, rfl, hFF, hB, hP⟩)
          have hl := hb3.lt
          have f0 := hb3.fz 0
          have f1 := hb3.fz 1
          have f2 := hb3.fz 2
          have f3 := hb3.fz 3
          have d0 := hb3.at 0 rfl
          have d1 := hb3.at 1 rfl
          have d2 := hb3.at 2 rfl
          have d3 := hb3.at 3 rfl
          clear hFF hB hP hb3 hs3 hlt
          go_wp2_with fail
          have c0 := HD.out.2.at 0 rfl
          have c1 := HD.out.2.at 1 rfl
          have c2 := HD.out.2.at 2 rfl
          have c3 := HD.out.2.at 3 rfl
          exact bodyPost_ret (v := .agg #[.int .i64 R.st, .slice A1 R.fs.length c1', .slice A2 R.body.length c2', .slice A3 R.parts.length c3']) (by simp [results, Tryz.results20, go_sem, c0, c1, c2, c3]) rfl (by have h := HD.out.1; rw [HR0.out] at h; exact h)
      · subst h2
        have HTb := Lib.hid (own_rowC_at (own_row_sm HS.out.2.2.1 H9.out.1 (fun _ _ h => h)))
        have HE2 := Lib.hid (show keyA T (txt query) = R from by
          rw [← HE.out]
          unfold idA
          rw [if_neg (by decide), if_pos rfl])
        go_wp2_with fail
        go_loopw [12] (fun i wr => SvK w9 T (txt query) i wr) (fun i _ => T.length - (intOf i).toNat)
        case atStart => exact ⟨0, Nat.zero_le _, rfl, by simp, Sm.refl _ _⟩
        case round =>
          obtain ⟨k, hk, rfl, hne, hs⟩ := hrel
          have hs9 := H9.out.1.trans hs (fun _ _ h => h)
          have hbq := H9.out.2.2.1.sm hs (fun h => h)
          have hbr := H9.out.2.1.sm hs (fun h => h)
          have q49 := hbq.at 4 (v := .string query) rfl
          have hql := hbq.lt
          have hS9 := HS.out.2.1.sm hs9 (fun h => h)
          have c1 := hS9.at 1 (v := .slice AT T.length cT) rfl
          have hsl := hS9.lt
          have HK := Lib.hid (And.intro hs9 (And.intro hbr (And.intro hs hne)))
          clear hs9 hbq hbr q69 q79 hS9
          by_cases hlt : k < T.length
          · obtain ⟨x, hx⟩ : ∃ x, T[k]? = some x := ⟨_, List.getElem?_eq_getElem hlt⟩
            obtain ⟨t1, t2, t3⟩ := entCells_at hx
            obtain ⟨bb, off, hAe, hbb, r0⟩ := (HTb.out.no hs).at t1
            subst hAe
            obtain ⟨_, _, hA1, _, r2⟩ := (HTb.out.no hs).at t3
            injection hA1 with hA1; injection hA1 with e1 e2; subst e1 e2
            rw [show off + (k * 3 + 2) = off + k * 3 + 2 by omega] at r2
            have k1 : (0 : Int) ≤ (k : Int) := by omega
            have k2 : (k : Int) < (T.length : Int) := by omega
            obtain ⟨s1, s2, s3⟩ := HS.out.2.2.2 x (List.mem_of_getElem? hx)
            have hqz : query.size ≤ 30000 := HQ.out.2.2.2.2.2.2.1
            have HX := Lib.hid hx
            clear hx t1 t2 t3 hs hne
            by_cases he : txt x.path = 47 :: txt query
            · have e1 : (x.path.toList == (((⟨#[47]⟩ : ByteArray) ++ query).toList)) = true := by
                rw [beq_txt]; exact decide_eq_true (by rw [he, ByteArray.toList_eq]; simp [txt])
              have e2 : x.path.toList = ((⟨#[47]⟩ : ByteArray) ++ query).toList := by simpa using e1
              have HE3 := Lib.hid ((keyA_at HK.out.2.2.2 HX.out he).symm.trans HE2.out)
              clear he
              go_wp2_with fail
              go_quiet (fail)
              go_wp2_with (refine wpList_bytes_own rfl 9 23 5 _ rfl _ rfl Tryz.underlying9 Tryz.underlying23 Tryz.underlying5 wr.heap.size (by simp) (by unfold maxLen; omega) ?_; intro cB w6 hOB hsB hzB; refine RowKit.Hid.out ?_)
              refine Lib.hid ?_
              have hsB := ((Sm.refl No wr).drewN _).trans hsB (fun _ _ h => h)
              have H6 := Lib.hid (And.intro (HK.out.1.trans hsB (fun _ _ h => h)) (And.intro (HK.out.2.1.sm hsB (fun h => h)) (And.intro hOB hsB.size)))
              clear hOB hsB hzB
              go_wp2_with fail
              refine (rsok_any w6 wr.heap.size H6.out.2.2.2 (txtB sPlain) _ (txt x.data) H6.out.2.2.1).mono ?_
              rintro e w3 ⟨v, rfl, hR, hs3⟩
              have hb3 := H6.out.2.1.sm hs3 (fun h => h)
              have hlt : b0 + 1 < wr.heap.size := HK.out.2.1.lt
              have hs3 := H6.out.1.trans hs3 (fun _ _ h => h)
              rw [HE3.out] at hR
              obtain ⟨vF, vB, vP, rfl, hFF, hB, hP⟩ := hR
              obtain ⟨A1, c1', rfl, _⟩ := hFF.row
              obtain ⟨A2, c2', rfl, _⟩ := hB.row
              obtain ⟨A3, c3', rfl, _⟩ := hP.row
              have HD := Lib.hid (ans_done (by rw [HR0.out]; omega) hs3 hb3 hlt ⟨_, _, _, rfl, hFF, hB, hP⟩)
              have hl := hb3.lt
              have f0 := hb3.fz 0
              have f1 := hb3.fz 1
              have f2 := hb3.fz 2
              have f3 := hb3.fz 3
              have d0 := hb3.at 0 rfl
              have d1 := hb3.at 1 rfl
              have d2 := hb3.at 2 rfl
              have d3 := hb3.at 3 rfl
              clear hFF hB hP hb3 hs3 hlt
              go_wp2_with fail
              have c0 := HD.out.2.at 0 rfl
              have c1 := HD.out.2.at 1 rfl
              have c2 := HD.out.2.at 2 rfl
              have c3 := HD.out.2.at 3 rfl
              exact bodyPost_ret (v := .agg #[.int .i64 R.st, .slice A1 R.fs.length c1', .slice A2 R.body.length c2', .slice A3 R.parts.length c3']) (by simp [results, Tryz.results20, go_sem, c0, c1, c2, c3]) rfl (by have h := HD.out.1; rw [HR0.out] at h; exact h)
            · have e1 : (x.path.toList == (((⟨#[47]⟩ : ByteArray) ++ query).toList)) = false := by
                rw [beq_txt]; exact decide_eq_false (fun e => he (by rw [e, ByteArray.toList_eq]; simp [txt]))
              have e2 : ¬ x.path.toList = ((⟨#[47]⟩ : ByteArray) ++ query).toList := by simpa using e1
              have HN := Lib.hid (takeE_all (p := fun x => txt x.path ≠ 47 :: txt query) HK.out.2.2.2 HX.out he)
              clear he
              go_wp2_with fail
              go_quiet (fail)
              go_wp2_with fail
              exact ⟨⟨k + 1, by omega, by go_num, HN.out, HK.out.2.2.1.drewN _⟩, by simp [intOf]; omega⟩
          · obtain rfl : k = T.length := by omega
            rw [List.take_length] at hne
            have HE3 := Lib.hid ((keyA_none hne).symm.trans HE2.out)
            clear hne hs
            go_wp2_with fail
            refine (rCanned_any wr (HG.out.no (HK.out.1)) 404 (by decide) (by decide) none 0 [] (fun k hk => by cases hk) (fun _ => ⟨rfl, rfl⟩) (by decide)).mono ?_
            rintro e w3 ⟨v, rfl, hR, hs3⟩
            have hb3 := (HK.out.2.1).sm hs3 (fun h => h)
            have hs3 := (HK.out.1).trans hs3 (fun _ _ h => h)
            have hlt : b0 + 1 < wr.heap.size := (HK.out.2.1).lt
            rw [show cannedL 404 [] = R from HE3.out] at hR
            obtain ⟨vF, vB, vP, rfl, hFF, hB, hP⟩ := hR
            obtain ⟨A1, c1', rfl, _⟩ := hFF.row
            obtain ⟨A2, c2', rfl, _⟩ := hB.row
            obtain ⟨A3, c3', rfl, _⟩ := hP.row
            have HD := Lib.hid (ans_done (by rw [HR0.out]; omega) hs3 hb3 hlt ⟨_, _, _, rfl, hFF, hB, hP⟩)
            have hl := hb3.lt
            have f0 := hb3.fz 0
            have f1 := hb3.fz 1
            have f2 := hb3.fz 2
            have f3 := hb3.fz 3
            have d0 := hb3.at 0 rfl
            have d1 := hb3.at 1 rfl
            have d2 := hb3.at 2 rfl
            have d3 := hb3.at 3 rfl
            clear hFF hB hP hb3 hs3 hlt
            go_wp2_with fail
            have c0 := HD.out.2.at 0 rfl
            have c1 := HD.out.2.at 1 rfl
            have c2 := HD.out.2.at 2 rfl
            have c3 := HD.out.2.at 3 rfl
            exact bodyPost_ret (v := .agg #[.int .i64 R.st, .slice A1 R.fs.length c1', .slice A2 R.body.length c2', .slice A3 R.parts.length c3']) (by simp [results, Tryz.results20, go_sem, c0, c1, c2, c3]) rfl (by have h := HD.out.1; rw [HR0.out] at h; exact h)
      · subst h3
        have HE2 := Lib.hid (show okL (txtB sPlain) [111, 107, 10] = R from by
          rw [← HE.out]
          unfold idA
          rw [if_neg (by decide), if_neg (by decide), if_pos rfl])
        have hOb : OwnB (w9.alloc (.cells #[.int .u8 111, .int .u8 107, .int .u8 10] 5 (3, 4))) w9.heap.size 5 (.slice (some ⟨w9.heap.size, 0, none⟩) 3 3) [111, 107, 10] :=
          ⟨rfl, Or.inr ⟨w9.heap.size, 3, _, (3, 4), rfl, Nat.le_refl _, heap_alloc_new w9 _, Or.inr (by decide), by decide, by decide, rfl, rfl⟩⟩
        have HOb := Lib.hid hOb
        clear hOb
        have kc := fun (w : World) (C : Array Value) (n c : Nat) => Lib.run_convert_bytes_const (P := Tryz.prog) w 23 5 C n c Tryz.underlying23 Tryz.underlying5
        go_wp2_with fail
        refine (rsok_any _ w9.heap.size (by simp) (txtB sPlain) _ [111, 107, 10] HOb.out).mono ?_
        rintro e w3 ⟨v, rfl, hR, hs3⟩
        have hb3 := (H9.out.2.1.alloc (.cells #[.int .u8 111, .int .u8 107, .int .u8 10] 5 (3, 4))).sm hs3 (fun h => h)
        have hlt : b0 + 1 < w9.heap.size := H9.out.2.1.lt
        have hs3 := (H9.out.1.alloc (.cells #[.int .u8 111, .int .u8 107, .int .u8 10] 5 (3, 4))).trans hs3 (fun _ _ h => h)
        rw [HE2.out] at hR
        obtain ⟨vF, vB, vP, rfl, hFF, hB, hP⟩ := hR
        obtain ⟨A1, c1', rfl, _⟩ := hFF.row
        obtain ⟨A2, c2', rfl, _⟩ := hB.row
        obtain ⟨A3, c3', rfl, _⟩ := hP.row
        have HD := Lib.hid (ans_done (by rw [HR0.out]; omega) hs3 hb3 hlt ⟨_, _, _, rfl, hFF, hB, hP⟩)
        have hl := hb3.lt
        have f0 := hb3.fz 0
        have f1 := hb3.fz 1
        have f2 := hb3.fz 2
        have f3 := hb3.fz 3
        have d0 := hb3.at 0 rfl
        have d1 := hb3.at 1 rfl
        have d2 := hb3.at 2 rfl
        have d3 := hb3.at 3 rfl
        clear hFF hB hP hb3 hs3 hlt
        go_wp2_with fail
        have c0 := HD.out.2.at 0 rfl
        have c1 := HD.out.2.at 1 rfl
        have c2 := HD.out.2.at 2 rfl
        have c3 := HD.out.2.at 3 rfl
        exact bodyPost_ret (v := .agg #[.int .i64 R.st, .slice A1 R.fs.length c1', .slice A2 R.body.length c2', .slice A3 R.parts.length c3']) (by simp [results, Tryz.results20, go_sem, c0, c1, c2, c3]) rfl (by have h := HD.out.1; rw [HR0.out] at h; exact h)
      · subst hk
        have hS9 := (HS.out.2.1.sm H9.out.1 (fun h => h))
        have c1 := hS9.at 1 (v := .slice AT T.length cT) rfl
        have hsl := hS9.lt
        obtain ⟨t1, t2, t3⟩ := entCells_at hx
        have hTb := own_rowC_at (own_row_sm HS.out.2.2.1 H9.out.1 (fun _ _ h => h))
        obtain ⟨bb, off, hAe, hbb, r0⟩ := hTb.at t1
        subst hAe
        obtain ⟨_, _, hA1, _, r1⟩ := hTb.at t2
        injection hA1 with hA1; injection hA1 with e1 e2; subst e1 e2
        obtain ⟨_, _, hA1, _, r2⟩ := hTb.at t3
        injection hA1 with hA1; injection hA1 with e1 e2; subst e1 e2
        rw [show off + (k * 3 + 1) = off + k * 3 + 1 by omega] at r1
        rw [show off + (k * 3 + 2) = off + k * 3 + 2 by omega] at r2
        have hkl : k < T.length := (List.getElem?_eq_some_iff.1 hx).1
        have k1 : (0 : Int) ≤ (k : Int) := by omega
        have k2 : (k : Int) < (T.length : Int) := by omega
        have k3 : (k : Int) ≤ 40 := by omega
        have n1 : ¬ (10 + (k : Int)) = 1 := by omega
        have n2 : ¬ (10 + (k : Int)) = 2 := by omega
        have n3 : ¬ (10 + (k : Int)) = 3 := by omega
        have hi : (10 + (k : Int)) - 10 = (k : Int) := by omega
        obtain ⟨s1, s2, s3⟩ := HS.out.2.2.2 x (List.mem_of_getElem? hx)
        have HE2 := Lib.hid (show entA x = R from by
          rw [← HE.out]
          unfold idA
          rw [if_neg n1, if_neg n2, if_neg n3, show ((10 + (k : Int)) - 10).toNat = k by omega, hx])
        obtain ⟨xp, xt, xd⟩ := x
        dsimp only at r0 r1 r2 s1 s2 s3 HE2
        clear hS9 t1 t2 t3 hTb hx q69 q79
        go_wp2_with (refine wpList_bytes_own rfl 9 23 5 _ rfl _ rfl Tryz.underlying9 Tryz.underlying23 Tryz.underlying5 w9.heap.size (by simp) (by unfold maxLen; omega) ?_; intro cB w6 hOB hsB hzB; refine RowKit.Hid.out ?_)
        refine Lib.hid ?_
        simp only [World.size_alloc] at hOB
        have hs6 := (H9.out.1.alloc (.cells #[.string xp, .string xt, .string xd] 56)).trans hsB (fun _ _ h => h)
        have hb6 := (H9.out.2.1.alloc (.cells #[.string xp, .string xt, .string xd] 56)).sm hsB (fun h => h)
        have he6 := (Bk.new w9 56 #[.string xp, .string xt, .string xd]).sm hsB (fun h => h)
        have hw6 : w9.heap.size ≤ w6.heap.size := Nat.le_trans (by simp) hsB.size
        have H6 := Lib.hid (And.intro hs6 (And.intro hb6 (And.intro he6 (And.intro hOB hw6))))
        clear hs6 hb6 he6 hOB hw6 hsB hzB r0 r1 r2 c1 hsl
        go_wp2_with fail
        refine (rsok_anyS w6 w9.heap.size H6.out.2.2.2.2 xt _ (txt xd) H6.out.2.2.2.1).mono ?_
        rintro e w7 ⟨vF, vB, rfl, hvF, hvB, hs7⟩
        obtain ⟨A1, c1', rfl, _⟩ := hvF.row
        obtain ⟨nb, hnb⟩ : ∃ nb, (txt xd).length = nb := ⟨_, rfl⟩
        obtain ⟨A2, c2', rfl, _⟩ := hvB.row
        rw [hnb]
        have hvB : ∃ l, txt xd = l ∧ ownsU w7 w9.heap.size 5 1 (.slice A2 nb c2') l.length (byteV l) := ⟨_, rfl, by rw [← hnb]; exact hvB⟩
        obtain ⟨ld, hld, hvB⟩ := hvB
        have he7 := H6.out.2.2.1.sm hs7 (fun h => h)
        have hb7 := H6.out.2.1.sm hs7 (fun h => h)
        have hs7w := H6.out.1.trans hs7 (fun _ _ h => h)
        have e71 := he7.at 1 (v := .string xt) rfl
        have e72 := he7.at 2 (v := .string xd) rfl
        have hel := he7.lt
        have hlt9 : b0 + 1 < w9.heap.size := H9.out.2.1.lt
        have H7 := Lib.hid (And.intro hs7w (And.intro hb7 (And.intro he7 (And.intro hvF (And.intro hvB (And.intro hlt9 (And.intro hnb hld)))))))
        clear hs7 hvF hvB he7 hb7 hs7w hnb hld
        obtain ⟨bp, hbp⟩ : ∃ bp, Lib.hasPrefix (txt xt) sStream = bp := ⟨_, rfl⟩
        have hpre : (bp = false ∧ (6 ≤ xt.size → ((xt.extract 0 6).toList == [115, 116, 114, 101, 97, 109]) = false)) ∨ (bp = true ∧ 6 ≤ xt.size ∧ ((xt.extract 0 6).toList == [115, 116, 114, 101, 97, 109]) = true) := by
          cases bp with
          | false => exact Or.inl ⟨rfl, fun h => (pre6 h).symm.trans hbp⟩
          | true => exact Or.inr ⟨rfl, pre6_le hbp, (pre6 (pre6_le hbp)).symm.trans hbp⟩
        rcases hpre with ⟨rfl, hno⟩ | ⟨rfl, h6, hp6⟩
        · have hbO := Bk.new w7 52 #[.int .i64 200, .slice A1 1 c1', .slice A2 nb c2', .slice none 0 0]
          have hR : RspV (w7.alloc (.cells #[.int .i64 200, .slice A1 1 c1', .slice A2 nb c2', .slice none 0 0] 52)) w9.heap.size (.agg #[.int .i64 200, .slice A1 1 c1', .slice A2 nb c2', .slice none 0 0]) R := by
            rw [← HE2.out]
            unfold entA
            dsimp only
            rw [if_neg (by rw [hbp]; decide), H7.out.2.2.2.2.2.2.2]
            exact ⟨_, _, _, rfl, H7.out.2.2.2.1.no ((Sm.refl No w7).alloc _), H7.out.2.2.2.2.1.no ((Sm.refl No w7).alloc _), ownsU.nil _ _ _ _⟩
          have hb3 := H7.out.2.1.alloc (.cells #[.int .i64 200, .slice A1 1 c1', .slice A2 nb c2', .slice none 0 0] 52)
          have hs3 := H7.out.1.alloc (.cells #[.int .i64 200, .slice A1 1 c1', .slice A2 nb c2', .slice none 0 0] 52)
          have hlt : b0 + 1 < w9.heap.size := H7.out.2.2.2.2.2.1
          by_cases h6 : 6 ≤ xt.size
          · have hp6 := hno h6
            have hp6n : ¬ (xt.extract 0 6).toList = [115, 116, 114, 101, 97, 109] := by simpa using hp6
            have i6 : (6 : Int) ≤ (xt.size : Int) := by omega
            clear hbp hno
            have HD := Lib.hid (ans_done (by rw [HR0.out]; omega) hs3 hb3 hlt hR)
            have hl := hb3.lt
            have f0 := hb3.fz 0
            have f1 := hb3.fz 1
            have f2 := hb3.fz 2
            have f3 := hb3.fz 3
            have d0 := hb3.at 0 rfl
            have d1 := hb3.at 1 rfl
            have d2 := hb3.at 2 rfl
            have d3 := hb3.at 3 rfl
            have o0 := hbO.at 0 (v := .int .i64 200) rfl
            have o1 := hbO.at 1 (v := .slice A1 1 c1') rfl
            have o2 := hbO.at 2 (v := .slice A2 nb c2') rfl
            have o3 := hbO.at 3 (v := .slice none 0 0) rfl
            have hol := hbO.lt
            clear hb3 hs3 hlt hR hbO
            go_wp2_with fail
            have c0 := HD.out.2.at 0 rfl
            have c1 := HD.out.2.at 1 rfl
            have c2 := HD.out.2.at 2 rfl
            have c3 := HD.out.2.at 3 rfl
            exact bodyPost_ret (v := .agg #[.int .i64 200, .slice A1 1 c1', .slice A2 nb c2', .slice none 0 0]) (by simp [results, Tryz.results20, go_sem, c0, c1, c2, c3]) rfl (by have h := HD.out.1; rw [HR0.out] at h; exact h)
          · have i6 : ¬ (6 : Int) ≤ (xt.size : Int) := by omega
            clear hbp hno
            have HD := Lib.hid (ans_done (by rw [HR0.out]; omega) hs3 hb3 hlt hR)
            have hl := hb3.lt
            have f0 := hb3.fz 0
            have f1 := hb3.fz 1
            have f2 := hb3.fz 2
            have f3 := hb3.fz 3
            have d0 := hb3.at 0 rfl
            have d1 := hb3.at 1 rfl
            have d2 := hb3.at 2 rfl
            have d3 := hb3.at 3 rfl
            have o0 := hbO.at 0 (v := .int .i64 200) rfl
            have o1 := hbO.at 1 (v := .slice A1 1 c1') rfl
            have o2 := hbO.at 2 (v := .slice A2 nb c2') rfl
            have o3 := hbO.at 3 (v := .slice none 0 0) rfl
            have hol := hbO.lt
            clear hb3 hs3 hlt hR hbO
            go_wp2_with fail
            have c0 := HD.out.2.at 0 rfl
            have c1 := HD.out.2.at 1 rfl
            have c2 := HD.out.2.at 2 rfl
            have c3 := HD.out.2.at 3 rfl
            exact bodyPost_ret (v := .agg #[.int .i64 200, .slice A1 1 c1', .slice A2 nb c2', .slice none 0 0]) (by simp [results, Tryz.results20, go_sem, c0, c1, c2, c3]) rfl (by have h := HD.out.1; rw [HR0.out] at h; exact h)
        · have hp6n : (xt.extract 0 6).toList = [115, 116, 114, 101, 97, 109] := by simpa using hp6
          have i6 : (6 : Int) ≤ (xt.size : Int) := by omega
          have HBP := Lib.hid hbp
          clear hbp
          go_wp2_with fail
          go_loopw [15] (fun i wr => EnT w7 w7.heap.size (.slice A1 1 c1') (.slice A2 nb c2') xd.size i wr) (fun i _ => xd.size + 32 - (intOf i).toNat)
          case atStart => exact ⟨0, .slice none 0 0, Or.inr rfl, rfl, ownsU.nil _ _ _ _, Bk.new w7 _ _, (Sm.refl No w7).alloc _⟩
          case round =>
            obtain ⟨j, vP, hj, rfl, hO, hbO, hsr⟩ := hrel
            obtain ⟨A3, c3', rfl, _⟩ := hO.row
            have he8 := H7.out.2.2.1.sm hsr (fun h => h)
            have e82 := he8.at 2 (v := .string xd) rfl
            have hel8 := he8.lt
            have hgl := hbO.lt
            have hjz : j ≤ 100000 := by omega
            clear e71 e72 he8
            by_cases hlt : 16 * (j + 1) < xd.size
            · have i0 : (0 : Int) ≤ 16 * ((j : Int) + 1) := by omega
              have i1 : (16 : Int) * ((j : Int) + 1) < (xd.size : Int) := by omega
              have i2 : (16 : Int) * ((j : Int) + 1) ≤ 1000000 := by omega
              have hmn : min (16 * (j + 1)) xd.size = 16 * (j + 1) := by omega
              have r3 := hbO.at 3 (v := .slice A3 j c3') rfl
              have HO := Lib.hid (And.intro hO (And.intro hbO (And.intro hsr (And.intro hmn hlt))))
              clear hO hbO hsr hmn
              go_wp2_with (refine wpList_pushU rfl _ _ 50 3 rfl Tryz.underlying50 _ 1 8 infoI8 rfl (by decide) (by decide) (w7.heap.size + 1) j _ _ rfl (HO.out.1.no ((Sm.refl No wr).alloc _)) ⟨wr.heap.size, 0, none⟩ 1 1 [.int .i64 (16 * ((j : Int) + 1))] rfl rfl (rowC_bk (Bk.new wr _ _)) (by simp [Value.oneCell']) (by omega) (by simp; omega) ?_; intro v' w5 hown5 hs5 _; obtain ⟨A5, c5, rfl, _⟩ := hown5.row; have hb5 := (HO.out.2.1.alloc (.cells #[.int .i64 (16 * ((j : Int) + 1))] 3)).sm hs5 (fun e => by have := (HO.out.1.lt _ e).1; omega); have d5 := hb5.at 3 rfl; have f5 := hb5.fz 3; have l5 := hb5.lt; have H5 := Lib.hid (And.intro hown5 hs5); refine RowKit.Hid.out ?_)
              refine Lib.hid ?_
              clear hown5 hs5 hb5 r3 e82
              go_wp2_with fail
              obtain ⟨j', vP', _, h2, h3, h4, h5⟩ := EnR.push (b := .int .i64 (16 * (((j + 1 : Nat) : Int) + 1))) rfl (show j < (xd.size + 15) / 16 by have := HO.out.2.2.2.2; omega) HO.out.1 HO.out.2.1 HO.out.2.2.1 (by rw [HO.out.2.2.2.1, show ((16 * (j + 1) : Nat) : Int) = 16 * ((j : Int) + 1) by omega]; exact H5.out.1) H5.out.2 rfl
              have hjj : j' = j + 1 := by injection h2 with _ h2; omega
              subst hjj
              exact ⟨⟨j + 1, vP', Or.inl HO.out.2.2.2.2, by rw [show (16 : Int) * ((j : Int) + 1) + 16 = 16 * (((j + 1 : Nat) : Int) + 1) by omega], h3, h4, h5⟩, by simp [intOf]; omega⟩
            · have i1 : ¬ (16 : Int) * ((j : Int) + 1) < (xd.size : Int) := by omega
              by_cases hn : xd.size = 0
              · have i2 : ¬ (0 : Int) < (xd.size : Int) := by omega
                have hj2 : j = (xd.size + 15) / 16 := by omega
                have hR : RspV wr w9.heap.size (.agg #[.int .i64 200, .slice A1 1 c1', .slice A2 nb c2', .slice A3 j c3']) R := by
                  rw [← HE2.out]
                  unfold entA
                  dsimp only
                  rw [if_pos HBP.out, H7.out.2.2.2.2.2.2.2]
                  refine ⟨_, _, _, rfl, H7.out.2.2.2.1.no hsr, H7.out.2.2.2.2.1.no hsr, ?_⟩
                  have h := hO.base (C := w9.heap.size) (fun b e => by have := (hO.lt b e).1; omega)
                  rw [parts_all _ _ hj2] at h
                  have e : (partsL xd.size).length = j := by rw [parts_len]; omega
                  show ownsU wr _ _ 1 _ (partsL xd.size).length _
                  rw [e]
                  exact h
                have hb3 := H7.out.2.1.sm hsr (fun h => h)
                have hs3 := H7.out.1.trans hsr (fun _ _ h => h)
                have hlt : b0 + 1 < w9.heap.size := H7.out.2.2.2.2.2.1
                clear hO hsr hj2
                have HD := Lib.hid (ans_done (by rw [HR0.out]; omega) hs3 hb3 hlt hR)
                have hl := hb3.lt
                have f0 := hb3.fz 0
                have f1 := hb3.fz 1
                have f2 := hb3.fz 2
                have f3 := hb3.fz 3
                have d0 := hb3.at 0 rfl
                have d1 := hb3.at 1 rfl
                have d2 := hb3.at 2 rfl
                have d3 := hb3.at 3 rfl
                have o0 := hbO.at 0 (v := .int .i64 200) rfl
                have o1 := hbO.at 1 (v := .slice A1 1 c1') rfl
                have o2 := hbO.at 2 (v := .slice A2 nb c2') rfl
                have o3 := hbO.at 3 (v := .slice A3 j c3') rfl
                have hol := hbO.lt
                clear hb3 hs3 hlt hR hbO
                go_wp2_with fail
                have c0 := HD.out.2.at 0 rfl
                have c1 := HD.out.2.at 1 rfl
                have c2 := HD.out.2.at 2 rfl
                have c3 := HD.out.2.at 3 rfl
                exact bodyPost_ret (v := .agg #[.int .i64 200, .slice A1 1 c1', .slice A2 nb c2', .slice A3 j c3']) (by simp [results, Tryz.results20, go_sem, c0, c1, c2, c3]) rfl (by have h := HD.out.1; rw [HR0.out] at h; exact h)
              · have i2 : (0 : Int) < (xd.size : Int) := by omega
                have hj2 : j < (xd.size + 15) / 16 := by omega
                have hj3 : j + 1 = (xd.size + 15) / 16 := by omega
                have hmn : min (16 * (j + 1)) xd.size = xd.size := by omega
                have r3 := hbO.at 3 (v := .slice A3 j c3') rfl
                have HO := Lib.hid (And.intro hO (And.intro hbO (And.intro hsr (And.intro hmn (And.intro hj2 hj3)))))
                have hbr := H7.out.2.1.sm hsr (fun h => h)
                have HB := Lib.hid hbr
                have hne : b0 + 1 < w7.heap.size := H7.out.2.1.lt
                clear hO hbO hsr hmn hj2 hj3 hbr
                go_wp2_with (refine wpList_pushU rfl _ _ 50 3 rfl Tryz.underlying50 _ 1 8 infoI8 rfl (by decide) (by decide) (w7.heap.size + 1) j _ _ rfl (HO.out.1.no ((Sm.refl No wr).alloc _)) ⟨wr.heap.size, 0, none⟩ 1 1 [.int .i64 (xd.size : Int)] rfl rfl (rowC_bk (Bk.new wr _ _)) (by simp [Value.oneCell']) (by omega) (by simp; omega) ?_; intro v' w5 hown5 hs5 _; obtain ⟨A5, c5, rfl, _⟩ := hown5.row; have hb5 := (HO.out.2.1.alloc (.cells #[.int .i64 (xd.size : Int)] 3)).sm hs5 (fun e => by have := (HO.out.1.lt _ e).1; omega); have o0 := hb5.at 0 (v := .int .i64 200) rfl; have o1 := hb5.at 1 (v := .slice A1 1 c1') rfl; have o2 := hb5.at 2 (v := .slice A2 nb c2') rfl; have d5 := hb5.at 3 rfl; have f5 := hb5.fz 3; have l5 := hb5.lt; have H5 := Lib.hid (And.intro hown5 hs5); have hbr5 := (HB.out.alloc (.cells #[.int .i64 (xd.size : Int)] 3)).sm hs5 (fun e => by have := (HO.out.1.lt _ e).1; omega); have d0 := hbr5.at 0 rfl; have d1 := hbr5.at 1 rfl; have d2 := hbr5.at 2 rfl; have d3 := hbr5.at 3 rfl; have f0 := hbr5.fz 0; have f1 := hbr5.fz 1; have f2 := hbr5.fz 2; have f3 := hbr5.fz 3; have HB5 := Lib.hid hbr5; have hl5 := hbr5.lt; refine RowKit.Hid.out ?_)
                refine Lib.hid ?_
                clear hown5 hs5 hb5 r3 e82 hbr5
                have n1 : ¬ b0 + 1 = w7.heap.size := by omega
                have n2 : ¬ w7.heap.size = b0 + 1 := by omega
                go_wp2_with fail
                have h6 : Sm (fun b => b = w7.heap.size) w5 (w5.setCell ⟨w7.heap.size, 3, none⟩ (.slice A5 (j + 1) c5)) := (Sm.refl _ w5).set1 3 _
                have hOS := H5.out.1.sm h6 (fun b e1 e2 => by have := (H5.out.1.lt b e1).1; omega)
                have hsS : Sm No w7 (w5.setCell ⟨w7.heap.size, 3, none⟩ (.slice A5 (j + 1) c5)) := ((HO.out.2.2.1.alloc (.cells #[.int .i64 (xd.size : Int)] 3)).fresh H5.out.2 (fun b e => by have := (HO.out.1.lt b e).1; omega)).fresh h6 (fun b e => by omega)
                have hb3 := HB5.out.sm h6 (fun e => by omega)
                have hR : RspV (w5.setCell ⟨w7.heap.size, 3, none⟩ (.slice A5 (j + 1) c5)) w9.heap.size (.agg #[.int .i64 200, .slice A1 1 c1', .slice A2 nb c2', .slice A5 (j + 1) c5]) R := by
                  rw [← HE2.out]
                  unfold entA
                  dsimp only
                  rw [if_pos HBP.out, H7.out.2.2.2.2.2.2.2]
                  refine ⟨_, _, _, rfl, H7.out.2.2.2.1.no hsS, H7.out.2.2.2.2.1.no hsS, ?_⟩
                  have h := hOS.base (C := w9.heap.size) (fun b e => by have := (hOS.lt b e).1; omega)
                  have e2 : intsV ((partsL xd.size).take j) ++ [.int .i64 (xd.size : Int)] = intsV (partsL xd.size) := by
                    have e3 := parts_take _ _ HO.out.2.2.2.2.1
                    rw [HO.out.2.2.2.1, parts_all _ _ HO.out.2.2.2.2.2] at e3
                    rw [← intsV_snoc, ← e3]
                  rw [e2] at h
                  have e : (partsL xd.size).length = j + 1 := by rw [parts_len]; exact HO.out.2.2.2.2.2.symm
                  show ownsU _ _ _ 1 _ (partsL xd.size).length _
                  rw [e]
                  exact h
                have HD := Lib.hid (ans_done (by rw [HR0.out]; omega) (H7.out.1.trans hsS (fun _ _ h => h)) hb3 H7.out.2.2.2.2.2.1 hR)
                have c0 := HD.out.2.at 0 rfl
                have c1 := HD.out.2.at 1 rfl
                have c2 := HD.out.2.at 2 rfl
                have c3 := HD.out.2.at 3 rfl
                exact bodyPost_ret (v := .agg #[.int .i64 200, .slice A1 1 c1', .slice A2 nb c2', .slice A5 (j + 1) c5]) (by simp [results, Tryz.results20, go_sem, c0, c1, c2, c3]) rfl (by have h := HD.out.1; rw [HR0.out] at h; exact h)
set_option maxRecDepth 100000 in
set_option maxHeartbeats 16000000 in
theorem rserve_2 (w : World) (hg : G1 w) (O : Nat → Prop) (s : Nat) (T : List Ent) (h : IsSiteX w O s T) (hc : siteC T = 0) (hsm : SmallE T) (q : Rq) (A : Option Addr) (c : Nat) (B : Option Addr) (d : Nat) (hq : RqOk w q A c B d) (hf : ¬ q.form = 4) (hf3 : ¬ q.form = 3) (hm4 : txt q.m ∈ m4) (g1 : (q.m.toList == [71, 69, 84]) = false) (g2 : (q.m.toList == [72, 69, 65, 68]) = false) (g3 : (q.m.toList == [80, 79, 83, 84]) = true) :
    Calls Tryz.prog 20 #[.pointer (some ⟨s, 0, none⟩), reqV q A c B d] w (AnsPost w w.heap.size (serveL T q)) := by
  have hT := table_40 hc
  obtain ⟨Q, AT, cT, v0, hR, hE, hS⟩ := h.parts
  obtain ⟨m, form, host, path, query, minor, fs, body, close, expect⟩ := q
  have HQ := Lib.hid hq
  dsimp only at hf hf3 hm4 g1 g2 g3
  have HS := Lib.hid (And.intro hR (And.intro hS (And.intro hE hsm)))
  have HG := Lib.hid hg
  clear hR hS hE hsm hg hq h
  unfold reqV
  dsimp only at HQ ⊢
  obtain ⟨R, hRR⟩ : ∃ R, serveL T ⟨m, form, host, path, query, minor, fs, body, close, expect⟩ = R := ⟨_, rfl⟩
  rw [hRR]
  have HRR := Lib.hid hRR
  clear hRR
  obtain ⟨b0, hb0⟩ : ∃ b0, w.heap.size = b0 := ⟨_, rfl⟩
  have HR0 := Lib.hid hb0
  rw [hb0]
  clear hb0
  go_enter Tryz.func20, Tryz.ntmps20
  have HM := Lib.hid (fun (h : txt m ∉ m4) => h hm4)
  have g0 : (form == 3) = false := by rw [beq_eq_false_iff_ne]; exact hf3
  clear hm4
  go_wp2_with fail
  rw [HR0.out]
  obtain ⟨w1, hw1⟩ : ∃ w1, (w.alloc (.cells #[.string m, .int .i64 form, .string host, .string path, .string query, .int .i64 minor, .slice A fs.length c, .slice B body.length d, .bool close, .bool expect] 29)).alloc (.cells #[.int .i64 0, .slice none 0 0, .slice none 0 0, .slice none 0 0] 52) = w1 := ⟨_, rfl⟩
  rw [hw1]
  have hs1 : Sm No w w1 := by rw [← hw1]; exact ((Sm.refl No w).alloc _).alloc _
  have hbq : Bk w1 b0 29 #[.string m, .int .i64 form, .string host, .string path, .string query, .int .i64 minor, .slice A fs.length c, .slice B body.length d, .bool close, .bool expect] := by rw [← hw1, ← HR0.out]; exact (Bk.new w _ _).alloc _
  have hbr : Bk w1 (b0 + 1) 52 #[.int .i64 0, .slice none 0 0, .slice none 0 0, .slice none 0 0] := by rw [← hw1]; exact Bk.newAt _ _ _ (by rw [← HR0.out]; simp)
  have hz1 : b0 + 1 + 1 = w1.heap.size := by rw [← hw1, ← HR0.out]; simp
  have H1 := Lib.hid (And.intro hs1 (And.intro hbq hbr))
  clear hs1 hbq hbr hw1
  have hno : ¬ (form = 3 ∨ txt m ∉ m4) := fun h => by
    rcases h with h | h
    · exact hf3 h
    · exact HM.out h
  have hm2 := serve_m HRR.out hf hno
  have hms := (match_site T (txt m) (txt path)).resolve_right (by omega)
  have hMP := fun (W : World) (hW : IsTwin 75 [.slice AT T.length cT] W Q s (routesL T)) => rmatch_any W Q s (routesL T) m path hW (by rw [routes_len]; omega) (fine_pats hT hc) (fun x hx => (fine_routes hT).2 x hx) (by have := HQ.out.2.2.2.2.2.1; dsimp only at this; omega)
  unfold MatchPost at hMP
  dsimp only at hm2
  obtain ⟨⟨i, rest, al, st⟩, hM⟩ : ∃ M, matchL (routesL T) (txt m) (txt path) = M := ⟨_, rfl⟩
  rw [hM] at hm2 hms
  simp only [hM] at hMP
  obtain ⟨rb, hrb⟩ : ∃ rb : ByteArray, strB rest = .string rb := ⟨_, rfl⟩
  rw [hrb] at hMP
  dsimp only at hm2 hms
  have HMP := Lib.hid hMP
  have HM2 := Lib.hid hm2
  have HMS := Lib.hid hms
  clear hm2 hms hMP hM hrb hno
  have q3 := H1.out.2.1.at 3 (v := .string path) rfl
  have hql := H1.out.2.1.lt
  go_wp2_with fail
  go_region_held3 (fun w' => w'.cell? ⟨b0, 3, none⟩ = some (.string path)) (first | exact q3 | exact q39 | go_keep)
    ((go_at_call 50; (with_reducible refine (HMP.out _ (HS.out.1.no (H1.out.1.drew))).mono ?_); rintro e w9 ⟨v9, rfl, hv9, hs9⟩; have q39 := hs9.cell hql q3))
  all_goals
    obtain ⟨AV, cV, rfl, hrV, hcV, _⟩ := own_rowC hv9
    have hs19 : Sm No w w9 := H1.out.1.drew.trans hs9 (fun _ _ h => h)
    have hbr9 := H1.out.2.2.drew.sm hs9 (fun h => h)
    have hbq9 := H1.out.2.1.drew.sm hs9 (fun h => h)
    have H9 := Lib.hid (And.intro hs19 (And.intro hbr9 (And.intro hbq9 (And.intro hrV hcV))))
    have q69 := hbq9.at 6 (v := .slice A fs.length c) rfl
    have q79 := hbq9.at 7 (v := .slice B body.length d) rfl
    have hql := hbq9.lt
    clear hs9 hv9 hs19 hbr9 hbq9 hrV hcV q39 q3
    rcases HMS.out with h404 | ⟨h405, hsml⟩ | ⟨h200, hid⟩
    · subst h404
      have HE := Lib.hid (show cannedL 404 [] = R from by have e := HM2.out; rw [if_pos rfl] at e; exact e)
      go_wp2_with fail
      refine (rCanned_any w9 (HG.out.no (H9.out.1)) 404 (by decide) (by decide) none 0 [] (fun k hk => by cases hk) (fun _ => ⟨rfl, rfl⟩) (by decide)).mono ?_
      rintro e w3 ⟨v, rfl, hR, hs3⟩
      have hb3 := (H9.out.2.1).sm hs3 (fun h => h)
      have hs3 := (H9.out.1).trans hs3 (fun _ _ h => h)
      have hlt : b0 + 1 < w9.heap.size := (H9.out.2.1).lt
      rw [show cannedL 404 [] = R from HE.out] at hR
      obtain ⟨vF, vB, vP, rfl, hFF, hB, hP⟩ := hR
      obtain ⟨A1, c1', rfl, _⟩ := hFF.row
      obtain ⟨A2, c2', rfl, _⟩ := hB.row
      obtain ⟨A3, c3', rfl, _⟩ := hP.row
      have HD := Lib.hid (ans_done (by rw [HR0.out]; omega) hs3 hb3 hlt ⟨_, _, _, rfl, hFF, hB, hP⟩)
      have hl := hb3.lt
      have f0 := hb3.fz 0
      have f1 := hb3.fz 1
      have f2 := hb3.fz 2
      have f3 := hb3.fz 3
      have d0 := hb3.at 0 rfl
      have d1 := hb3.at 1 rfl
      have d2 := hb3.at 2 rfl
      have d3 := hb3.at 3 rfl
      clear hFF hB hP hb3 hs3 hlt
      go_wp2_with fail
      have c0 := HD.out.2.at 0 rfl
      have c1 := HD.out.2.at 1 rfl
      have c2 := HD.out.2.at 2 rfl
      have c3 := HD.out.2.at 3 rfl
      exact bodyPost_ret (v := .agg #[.int .i64 R.st, .slice A1 R.fs.length c1', .slice A2 R.body.length c2', .slice A3 R.parts.length c3']) (by simp [results, Tryz.results20, go_sem, c0, c1, c2, c3]) rfl (by have h := HD.out.1; rw [HR0.out] at h; exact h)
    · subst h405
      by_cases hO : txt m = OPTS
      · have e1 : (m.toList == [79, 80, 84, 73, 79, 78, 83]) = true := by rw [beq_txt]; exact decide_eq_true hO
        have e2 : m.toList = [79, 80, 84, 73, 79, 78, 83] := by simpa using e1
        obtain ⟨fa, hfa⟩ : ∃ fa, (allowF al).1 = fa := ⟨_, rfl⟩
        obtain ⟨fb, hfb⟩ : ∃ fb, (allowF al).2 = fb := ⟨_, rfl⟩
        have HE := Lib.hid (show cannedL 204 [(fa, fb)] = R from by have e := HM2.out; rw [if_neg (by decide), if_pos rfl, if_pos hO] at e; rw [← hfa, ← hfb]; exact e)
        have HAL := Lib.hid (rsallow_any w9 AV cV al H9.out.2.2.2.1 hsml)
        rw [hfa, hfb] at HAL
        clear hfa hfb
        go_wp2_with fail
        refine HAL.out.mono ?_
        rintro e w10 ⟨rfl, hs10⟩
        have H10 := Lib.hid (And.intro (H9.out.1.trans hs10 (fun _ _ h => h)) (H9.out.2.1.sm hs10 (fun h => h)))
        clear hs10 HAL
        go_wp2_with fail
        refine (rCanned_any (w10.alloc (.cells #[.string fa, .string fb] 65)) (HG.out.no (H10.out.1.alloc _)) 204 (by decide) (by decide) (some ⟨w10.heap.size, 0, none⟩) 1 [(fa, fb)] (fRow_one (Bk.new w10 _ _)) (fun e => by cases e) (by simp)).mono ?_
        rintro e w3 ⟨v, rfl, hR, hs3⟩
        have hb3 := ((H10.out.2).alloc (.cells #[.string fa, .string fb] 65)).sm hs3 (fun h => h)
        have hs3 := ((H10.out.1).alloc (.cells #[.string fa, .string fb] 65)).trans hs3 (fun _ _ h => h)
        have hlt : b0 + 1 < (w10.alloc (.cells #[.string fa, .string fb] 65)).heap.size := Nat.lt_of_lt_of_le (H10.out.2).lt (by simp)
        rw [HE.out] at hR
        obtain ⟨vF, vB, vP, rfl, hFF, hB, hP⟩ := hR
        obtain ⟨A1, c1', rfl, _⟩ := hFF.row
        obtain ⟨A2, c2', rfl, _⟩ := hB.row
        obtain ⟨A3, c3', rfl, _⟩ := hP.row
        have HD := Lib.hid (ans_done (by rw [HR0.out]; omega) hs3 hb3 hlt ⟨_, _, _, rfl, hFF, hB, hP⟩)
        have hl := hb3.lt
        have f0 := hb3.fz 0
        have f1 := hb3.fz 1
        have f2 := hb3.fz 2
        have f3 := hb3.fz 3
        have d0 := hb3.at 0 rfl
        have d1 := hb3.at 1 rfl
        have d2 := hb3.at 2 rfl
        have d3 := hb3.at 3 rfl
        clear hFF hB hP hb3 hs3 hlt
        go_wp2_with fail
        have c0 := HD.out.2.at 0 rfl
        have c1 := HD.out.2.at 1 rfl
        have c2 := HD.out.2.at 2 rfl
        have c3 := HD.out.2.at 3 rfl
        exact bodyPost_ret (v := .agg #[.int .i64 R.st, .slice A1 R.fs.length c1', .slice A2 R.body.length c2', .slice A3 R.parts.length c3']) (by simp [results, Tryz.results20, go_sem, c0, c1, c2, c3]) rfl (by have h := HD.out.1; rw [HR0.out] at h; exact h)
      · have e1 : (m.toList == [79, 80, 84, 73, 79, 78, 83]) = false := by rw [beq_txt]; exact decide_eq_false hO
        have e2 : ¬ m.toList = [79, 80, 84, 73, 79, 78, 83] := by simpa using e1
        obtain ⟨fa, hfa⟩ : ∃ fa, (allowF al).1 = fa := ⟨_, rfl⟩
        obtain ⟨fb, hfb⟩ : ∃ fb, (allowF al).2 = fb := ⟨_, rfl⟩
        have HE := Lib.hid (show cannedL 405 [(fa, fb)] = R from by have e := HM2.out; rw [if_neg (by decide), if_pos rfl, if_neg hO] at e; rw [← hfa, ← hfb]; exact e)
        have HAL := Lib.hid (rsallow_any w9 AV cV al H9.out.2.2.2.1 hsml)
        rw [hfa, hfb] at HAL
        clear hfa hfb
        go_wp2_with fail
        refine HAL.out.mono ?_
        rintro e w10 ⟨rfl, hs10⟩
        have H10 := Lib.hid (And.intro (H9.out.1.trans hs10 (fun _ _ h => h)) (H9.out.2.1.sm hs10 (fun h => h)))
        clear hs10 HAL
        go_wp2_with fail
        refine (rCanned_any (w10.alloc (.cells #[.string fa, .string fb] 65)) (HG.out.no (H10.out.1.alloc _)) 405 (by decide) (by decide) (some ⟨w10.heap.size, 0, none⟩) 1 [(fa, fb)] (fRow_one (Bk.new w10 _ _)) (fun e => by cases e) (by simp)).mono ?_
        rintro e w3 ⟨v, rfl, hR, hs3⟩
        have hb3 := ((H10.out.2).alloc (.cells #[.string fa, .string fb] 65)).sm hs3 (fun h => h)
        have hs3 := ((H10.out.1).alloc (.cells #[.string fa, .string fb] 65)).trans hs3 (fun _ _ h => h)
        have hlt : b0 + 1 < (w10.alloc (.cells #[.string fa, .string fb] 65)).heap.size := Nat.lt_of_lt_of_le (H10.out.2).lt (by simp)
        rw [HE.out] at hR
        obtain ⟨vF, vB, vP, rfl, hFF, hB, hP⟩ := hR
        obtain ⟨A1, c1', rfl, _⟩ := hFF.row
        obtain ⟨A2, c2', rfl, _⟩ := hB.row
        obtain ⟨A3, c3', rfl, _⟩ := hP.row
        have HD := Lib.hid (ans_done (by rw [HR0.out]; omega) hs3 hb3 hlt ⟨_, _, _, rfl, hFF, hB, hP⟩)
        have hl := hb3.lt
        have f0 := hb3.fz 0
        have f1 := hb3.fz 1
        have f2 := hb3.fz 2
        have f3 := hb3.fz 3
        have d0 := hb3.at 0 rfl
        have d1 := hb3.at 1 rfl
        have d2 := hb3.at 2 rfl
        have d3 := hb3.at 3 rfl
        clear hFF hB hP hb3 hs3 hlt
        go_wp2_with fail
        have c0 := HD.out.2.at 0 rfl
        have c1 := HD.out.2.at 1 rfl
        have c2 := HD.out.2.at 2 rfl
        have c3 := HD.out.2.at 3 rfl
        exact bodyPost_ret (v := .agg #[.int .i64 R.st, .slice A1 R.fs.length c1', .slice A2 R.body.length c2', .slice A3 R.parts.length c3']) (by simp [results, Tryz.results20, go_sem, c0, c1, c2, c3]) rfl (by have h := HD.out.1; rw [HR0.out] at h; exact h)
    · subst h200
      have HE := Lib.hid (show idA T ⟨m, form, host, path, query, minor, fs, body, close, expect⟩ i = R from by have e := HM2.out; rw [if_neg (by decide), if_neg (by decide)] at e; exact e)
      rcases hid with h1 | h2 | h3 | ⟨k, x, hx, hk⟩
      · subst h1
        have hsh : Short fs := fun y hy => ⟨by have := (HQ.out.2.2.2.2.2.2.2.1 y hy).1; omega, by have := (HQ.out.2.2.2.2.2.2.2.1 y hy).2; omega⟩
        have hgl : (getL (addL [] fs).1 (txtB sCT)).length ≤ 900000 ∨ 24 < (addL [] fs).1.length := by
          by_cases h24 : 24 < (addL [] fs).1.length
          · exact Or.inr h24
          · exact Or.inl (getL_le (fun y hy => by
              rcases addL_mem fs [] y hy with g | ⟨g, _⟩
              · cases g
              · exact (HQ.out.2.2.2.2.2.2.2.1 y g).2) (by omega))
        have HSh := Lib.hid (And.intro (short_addL hsh) hgl)
        have HAd := Lib.hid (rAdd_any (w9.alloc (.cells #[.slice none 0 0] 88)) w9.heap.size w9.heap.size (.slice none 0 0) [] fs A c
          ⟨Bk.new w9 _ _, World.ownsRow_nil _ _ _ _, by simp [Value.ownBlock]⟩ (by decide) ((HQ.out.1.no H9.out.1).no ((Sm.refl No w9).alloc _))
          (fun h0 a ha ht => by
            obtain ⟨bb, off, hAe, hb, _⟩ := (HQ.out.1.no H9.out.1) 0 h0
            rw [ha] at hAe
            injection hAe with hAe
            subst hAe
            rcases ht with ht | ht
            · have ht : bb = w9.heap.size := ht
              omega
            · cases ht) hsh (by have := HQ.out.2.2.2.2.2.2.2.2.1; dsimp only at this; omega) (by simp))
        clear hsh hgl
        go_wp2_with fail
        refine HAd.out.mono ?_
        rintro e w10 ⟨v10, rfl, hF10, hl10, hs10, _⟩
        have hs10 : Sm No w9 w10 := ((Sm.refl No w9).alloc (.cells #[.slice none 0 0] 88)).fresh hs10 (fun b hb => by
          rcases hb with hb | hb
          · omega
          · cases hb)
        have HF10 := Lib.hid (And.intro hF10 hs10)
        have hgl := HSh.out.2.resolve_right (by omega)
        clear hF10 hs10 HAd
        go_wp2_with fail
        refine (rGet_any w10 _ _ v10 _ (txtB sCT) HF10.out.1 hl10 HSh.out.1 (by decide)).mono ?_
        rintro e w11 ⟨gt, hgt2, rfl, hs11⟩
        have hgs : gt.size ≤ 900000 := by
          have : gt.data.toList.length ≤ 900000 := by rw [hgt2]; exact hgl
          simpa using this
        obtain ⟨tr, htr⟩ : ∃ tr : ByteArray, (⟨(trimL gt.data.toList).toArray⟩ : ByteArray) = tr := ⟨_, rfl⟩
        have HTr := Lib.hid htr
        have HS11 := Lib.hid (And.intro (HF10.out.2.trans hs11 (fun _ _ h => h)) (And.intro hgt2 hgs))
        clear hgt2 hgl hs11 htr
        go_wp2_with fail
        refine (rTrim_say HTr (by omega) w11).mono ?_
        rintro e w12 ⟨rfl, hs12⟩
        have hs912 : Sm No w9 w12 := by rw [← hs12]; exact HS11.out.1
        have hb12 := H9.out.2.2.1.sm hs912 (fun h => h)
        have q79 := hb12.at 7 (v := .slice B body.length d) rfl
        have hql := hb12.lt
        have H12 := Lib.hid (And.intro hs912 hb12)
        clear hs12 hs912 hb12 q69
        have htr : txt tr = trimL (getL (addL [] fs).1 (txtB sCT)) := by rw [← HTr.out, HS11.out.2.1]; rfl
        by_cases hz : tr.size = 0
        · have htz : txt tr = [] := List.eq_nil_of_length_eq_zero (by rw [txt_len]; exact hz)
          have e2 : tr.toList = [] := by rw [ByteArray.toList_eq]; exact htz
          have HE2 := Lib.hid (show okL (txtB sOctet) body = R from by
            rw [← HE.out]
            unfold idA typeL
            rw [if_pos rfl, if_pos (htr.symm.trans htz)])
          clear htr htz
          go_wp2_with (refine wpList_push_opt rfl _ _ 23 5 rfl Tryz.underlying23 _ 1 1 infoU8 rfl (by decide) (by decide) w12.heap.size 0 _ [] rfl (own_empty w12 _ _ (Nat.le_refl _)) B body.length d (byteV body) rfl HQ.out.2.2.2.1 (by rw [byteV_len, Nat.mul_one]) ((HQ.out.2.2.1.no (H9.out.1.trans H12.out.1 (fun _ _ h => h))).no ((Sm.refl No w12).alloc _)) (byteV_one body) (by have := HQ.out.2.2.2.2.2.2.2.2.2; dsimp only at this; omega) (by simp) ?_; intro vb w13 hown hs13 _; refine RowKit.Hid.out ?_)
          refine Lib.hid ?_
          have hvb : OwnB w13 w12.heap.size 5 vb body := by
            have h := ownsU.of hown
            rw [Nat.zero_add, List.nil_append] at h
            exact h
          have hs13 : Sm No w12 w13 := ((Sm.refl No w12).alloc (.cells #[] 5)).fresh hs13 (fun b hb => by
            have hb : some w12.heap.size = some b := hb
            injection hb with hb
            omega)
          have HS13 := Lib.hid (And.intro hvb hs13)
          clear hown hvb hs13
          obtain ⟨vA, vc, rfl, _⟩ := HS13.out.1.row
          go_wp2_with fail
          refine (rsok_any w13 w12.heap.size HS13.out.2.size (txtB sOctet) _ body HS13.out.1).mono ?_
          rintro e w3 ⟨v, rfl, hR, hs3⟩
          have hb3 := ((H9.out.2.1.sm H12.out.1 (fun h => h)).sm HS13.out.2 (fun h => h)).sm hs3 (fun h => h)
          have hlt : b0 + 1 < w12.heap.size := (H9.out.2.1.sm H12.out.1 (fun h => h)).lt
          have hs3 := ((H9.out.1.trans H12.out.1 (fun _ _ h => h)).trans HS13.out.2 (fun _ _ h => h)).trans hs3 (fun _ _ h => h)
          rw [HE2.out] at hR
          obtain ⟨vF, vB, vP, rfl, hFF, hB, hP⟩ := hR
          obtain ⟨A1, c1', rfl, _⟩ := hFF.row
          obtain ⟨A2, c2', rfl, _⟩ := hB.row
          obtain ⟨A3, c3', rfl, _⟩ := hP.row
          have HD := Lib.hid (ans_done (by rw [HR0.out]; omega) hs3 hb3 hlt ⟨_, _, _, rfl, hFF, hB, hP⟩)
          have hl := hb3.lt
          have f0 := hb3.fz 0
          have f1 := hb3.fz 1
          have f2 := hb3.fz 2
          have f3 := hb3.fz 3
          have d0 := hb3.at 0 rfl
          have d1 := hb3.at 1 rfl
          have d2 := hb3.at 2 rfl
          have d3 := hb3.at 3 rfl
          clear hFF hB hP hb3 hs3 hlt
          go_wp2_with fail
          have c0 := HD.out.2.at 0 rfl
          have c1 := HD.out.2.at 1 rfl
          have c2 := HD.out.2.at 2 rfl
          have c3 := HD.out.2.at 3 rfl
          exact bodyPost_ret (v := .agg #[.int .i64 R.st, .slice A1 R.fs.length c1', .slice A2 R.body.length c2', .slice A3 R.parts.length c3']) (by simp [results, Tryz.results20, go_sem, c0, c1, c2, c3]) rfl (by have h := HD.out.1; rw [HR0.out] at h; exact h)
        · have htz : ¬ txt tr = [] := fun e => hz (by rw [← txt_len, e]; rfl)
          have e2 : ¬ tr.toList = [] := by rw [ByteArray.toList_eq]; exact htz
          have e2b : tr.toList.isEmpty = false := by
            cases h : tr.toList with
            | nil => exact absurd h e2
            | cons => rfl
          have HE2 := Lib.hid (show okL tr body = R from by
            rw [← HE.out]
            unfold idA typeL
            rw [if_pos rfl, if_neg (fun e => htz (htr.trans e)), ← htr]
            rfl)
          clear htr htz
          go_wp2_with (refine wpList_push_opt rfl _ _ 23 5 rfl Tryz.underlying23 _ 1 1 infoU8 rfl (by decide) (by decide) w12.heap.size 0 _ [] rfl (own_empty w12 _ _ (Nat.le_refl _)) B body.length d (byteV body) rfl HQ.out.2.2.2.1 (by rw [byteV_len, Nat.mul_one]) ((HQ.out.2.2.1.no (H9.out.1.trans H12.out.1 (fun _ _ h => h))).no ((Sm.refl No w12).alloc _)) (byteV_one body) (by have := HQ.out.2.2.2.2.2.2.2.2.2; dsimp only at this; omega) (by simp) ?_; intro vb w13 hown hs13 _; refine RowKit.Hid.out ?_)
          refine Lib.hid ?_
          have hvb : OwnB w13 w12.heap.size 5 vb body := by
            have h := ownsU.of hown
            rw [Nat.zero_add, List.nil_append] at h
            exact h
          have hs13 : Sm No w12 w13 := ((Sm.refl No w12).alloc (.cells #[] 5)).fresh hs13 (fun b hb => by
            have hb : some w12.heap.size = some b := hb
            injection hb with hb
            omega)
          have HS13 := Lib.hid (And.intro hvb hs13)
          clear hown hvb hs13
          obtain ⟨vA, vc, rfl, _⟩ := HS13.out.1.row
          go_wp2_with fail
          refine (rsok_any w13 w12.heap.size HS13.out.2.size tr _ body HS13.out.1).mono ?_
          rintro e w3 ⟨v, rfl, hR, hs3⟩
          have hb3 := ((H9.out.2.1.sm H12.out.1 (fun h => h)).sm HS13.out.2 (fun h => h)).sm hs3 (fun h => h)
          have hlt : b0 + 1 < w12.heap.size := (H9.out.2.1.sm H12.out.1 (fun h => h)).lt
          have hs3 := ((H9.out.1.trans H12.out.1 (fun _ _ h => h)).trans HS13.out.2 (fun _ _ h => h)).trans hs3 (fun _ _ h => h)
          rw [HE2.out] at hR
          obtain ⟨vF, vB, vP, rfl, hFF, hB, hP⟩ := hR
          obtain ⟨A1, c1', rfl, _⟩ := hFF.row
          obtain ⟨A2, c2', rfl, _⟩ := hB.row
          obtain ⟨A3, c3', rfl, _⟩ := hP.row
          have HD := Lib.hid (ans_done (by rw [HR0.out]; omega) hs3 hb3 hlt ⟨_, _, _, rfl, hFF, hB, hP⟩)
          have hl := hb3.lt
          have f0 := hb3.fz 0
          have f1 := hb3.fz 1
          have f2 := hb3.fz 2
          have f3 := hb3.fz 3
          have d0 := hb3.at 0 rfl
          have d1 := hb3.at 1 rfl
          have d2 := hb3.at 2 rfl
          have d3 := hb3.at 3 rfl
          clear hFF hB hP hb3 hs3 hlt
          go_wp2_with fail
          have c0 := HD.out.2.at 0 rfl
          have c1 := HD.out.2.at 1 rfl
          have c2 := HD.out.2.at 2 rfl
          have c3 := HD.out.2.at 3 rfl
          exact bodyPost_ret (v := .agg #[.int .i64 R.st, .slice A1 R.fs.length c1', .slice A2 R.body.length c2', .slice A3 R.parts.length c3']) (by simp [results, Tryz.results20, go_sem, c0, c1, c2, c3]) rfl (by have h := HD.out.1; rw [HR0.out] at h; exact h)
      · subst h2
        have HTb := Lib.hid (own_rowC_at (own_row_sm HS.out.2.2.1 H9.out.1 (fun _ _ h => h)))
        have HE2 := Lib.hid (show keyA T (txt query) = R from by
          rw [← HE.out]
          unfold idA
          rw [if_neg (by decide), if_pos rfl])
        go_wp2_with fail
        go_loopw [12] (fun i wr => SvK w9 T (txt query) i wr) (fun i _ => T.length - (intOf i).toNat)
        case atStart => exact ⟨0, Nat.zero_le _, rfl, by simp, Sm.refl _ _⟩
        case round =>
          obtain ⟨k, hk, rfl, hne, hs⟩ := hrel
          have hs9 := H9.out.1.trans hs (fun _ _ h => h)
          have hbq := H9.out.2.2.1.sm hs (fun h => h)
          have hbr := H9.out.2.1.sm hs (fun h => h)
          have q49 := hbq.at 4 (v := .string query) rfl
          have hql := hbq.lt
          have hS9 := HS.out.2.1.sm hs9 (fun h => h)
          have c1 := hS9.at 1 (v := .slice AT T.length cT) rfl
          have hsl := hS9.lt
          have HK := Lib.hid (And.intro hs9 (And.intro hbr (And.intro hs hne)))
          clear hs9 hbq hbr q69 q79 hS9
          by_cases hlt : k < T.length
          · obtain ⟨x, hx⟩ : ∃ x, T[k]? = some x := ⟨_, List.getElem?_eq_getElem hlt⟩
            obtain ⟨t1, t2, t3⟩ := entCells_at hx
            obtain ⟨bb, off, hAe, hbb, r0⟩ := (HTb.out.no hs).at t1
            subst hAe
            obtain ⟨_, _, hA1, _, r2⟩ := (HTb.out.no hs).at t3
            injection hA1 with hA1; injection hA1 with e1 e2; subst e1 e2
            rw [show off + (k * 3 + 2) = off + k * 3 + 2 by omega] at r2
            have k1 : (0 : Int) ≤ (k : Int) := by omega
            have k2 : (k : Int) < (T.length : Int) := by omega
            obtain ⟨s1, s2, s3⟩ := HS.out.2.2.2 x (List.mem_of_getElem? hx)
            have hqz : query.size ≤ 30000 := HQ.out.2.2.2.2.2.2.1
            have HX := Lib.hid hx
            clear hx t1 t2 t3 hs hne
            by_cases he : txt x.path = 47 :: txt query
            · have e1 : (x.path.toList == (((⟨#[47]⟩ : ByteArray) ++ query).toList)) = true := by
                rw [beq_txt]; exact decide_eq_true (by rw [he, ByteArray.toList_eq]; simp [txt])
              have e2 : x.path.toList = ((⟨#[47]⟩ : ByteArray) ++ query).toList := by simpa using e1
              have HE3 := Lib.hid ((keyA_at HK.out.2.2.2 HX.out he).symm.trans HE2.out)
              clear he
              go_wp2_with fail
              go_quiet (fail)
              go_wp2_with (refine wpList_bytes_own rfl 9 23 5 _ rfl _ rfl Tryz.underlying9 Tryz.underlying23 Tryz.underlying5 wr.heap.size (by simp) (by unfold maxLen; omega) ?_; intro cB w6 hOB hsB hzB; refine RowKit.Hid.out ?_)
              refine Lib.hid ?_
              have hsB := ((Sm.refl No wr).drewN _).trans hsB (fun _ _ h => h)
              have H6 := Lib.hid (And.intro (HK.out.1.trans hsB (fun _ _ h => h)) (And.intro (HK.out.2.1.sm hsB (fun h => h)) (And.intro hOB hsB.size)))
              clear hOB hsB hzB
              go_wp2_with fail
              refine (rsok_any w6 wr.heap.size H6.out.2.2.2 (txtB sPlain) _ (txt x.data) H6.out.2.2.1).mono ?_
              rintro e w3 ⟨v, rfl, hR, hs3⟩
              have hb3 := H6.out.2.1.sm hs3 (fun h => h)
              have hlt : b0 + 1 < wr.heap.size := HK.out.2.1.lt
              have hs3 := H6.out.1.trans hs3 (fun _ _ h => h)
              rw [HE3.out] at hR
              obtain ⟨vF, vB, vP, rfl, hFF, hB, hP⟩ := hR
              obtain ⟨A1, c1', rfl, _⟩ := hFF.row
              obtain ⟨A2, c2', rfl, _⟩ := hB.row
              obtain ⟨A3, c3', rfl, _⟩ := hP.row
              have HD := Lib.hid (ans_done (by rw [HR0.out]; omega) hs3 hb3 hlt ⟨_, _, _, rfl, hFF, hB, hP⟩)
              have hl := hb3.lt
              have f0 := hb3.fz 0
              have f1 := hb3.fz 1
              have f2 := hb3.fz 2
              have f3 := hb3.fz 3
              have d0 := hb3.at 0 rfl
              have d1 := hb3.at 1 rfl
              have d2 := hb3.at 2 rfl
              have d3 := hb3.at 3 rfl
              clear hFF hB hP hb3 hs3 hlt
              go_wp2_with fail
              have c0 := HD.out.2.at 0 rfl
              have c1 := HD.out.2.at 1 rfl
              have c2 := HD.out.2.at 2 rfl
              have c3 := HD.out.2.at 3 rfl
              exact bodyPost_ret (v := .agg #[.int .i64 R.st, .slice A1 R.fs.length c1', .slice A2 R.body.length c2', .slice A3 R.parts.length c3']) (by simp [results, Tryz.results20, go_sem, c0, c1, c2, c3]) rfl (by have h := HD.out.1; rw [HR0.out] at h; exact h)
            · have e1 : (x.path.toList == (((⟨#[47]⟩ : ByteArray) ++ query).toList)) = false := by
                rw [beq_txt]; exact decide_eq_false (fun e => he (by rw [e, ByteArray.toList_eq]; simp [txt]))
              have e2 : ¬ x.path.toList = ((⟨#[47]⟩ : ByteArray) ++ query).toList := by simpa using e1
              have HN := Lib.hid (takeE_all (p := fun x => txt x.path ≠ 47 :: txt query) HK.out.2.2.2 HX.out he)
              clear he
              go_wp2_with fail
              go_quiet (fail)
              go_wp2_with fail
              exact ⟨⟨k + 1, by omega, by go_num, HN.out, HK.out.2.2.1.drewN _⟩, by simp [intOf]; omega⟩
          · obtain rfl : k = T.length := by omega
            rw [List.take_length] at hne
            have HE3 := Lib.hid ((keyA_none hne).symm.trans HE2.out)
            clear hne hs
            go_wp2_with fail
            refine (rCanned_any wr (HG.out.no (HK.out.1)) 404 (by decide) (by decide) none 0 [] (fun k hk => by cases hk) (fun _ => ⟨rfl, rfl⟩) (by decide)).mono ?_
            rintro e w3 ⟨v, rfl, hR, hs3⟩
            have hb3 := (HK.out.2.1).sm hs3 (fun h => h)
            have hs3 := (HK.out.1).trans hs3 (fun _ _ h => h)
            have hlt : b0 + 1 < wr.heap.size := (HK.out.2.1).lt
            rw [show cannedL 404 [] = R from HE3.out] at hR
            obtain ⟨vF, vB, vP, rfl, hFF, hB, hP⟩ := hR
            obtain ⟨A1, c1', rfl, _⟩ := hFF.row
            obtain ⟨A2, c2', rfl, _⟩ := hB.row
            obtain ⟨A3, c3', rfl, _⟩ := hP.row
            have HD := Lib.hid (ans_done (by rw [HR0.out]; omega) hs3 hb3 hlt ⟨_, _, _, rfl, hFF, hB, hP⟩)
            have hl := hb3.lt
            have f0 := hb3.fz 0
            have f1 := hb3.fz 1
            have f2 := hb3.fz 2
            have f3 := hb3.fz 3
            have d0 := hb3.at 0 rfl
            have d1 := hb3.at 1 rfl
            have d2 := hb3.at 2 rfl
            have d3 := hb3.at 3 rfl
            clear hFF hB hP hb3 hs3 hlt
            go_wp2_with fail
            have c0 := HD.out.2.at 0 rfl
            have c1 := HD.out.2.at 1 rfl
            have c2 := HD.out.2.at 2 rfl
            have c3 := HD.out.2.at 3 rfl
            exact bodyPost_ret (v := .agg #[.int .i64 R.st, .slice A1 R.fs.length c1', .slice A2 R.body.length c2', .slice A3 R.parts.length c3']) (by simp [results, Tryz.results20, go_sem, c0, c1, c2, c3]) rfl (by have h := HD.out.1; rw [HR0.out] at h; exact h)
      · subst h3
        have HE2 := Lib.hid (show okL (txtB sPlain) [111, 107, 10] = R from by
          rw [← HE.out]
          unfold idA
          rw [if_neg (by decide), if_neg (by decide), if_pos rfl])
        have hOb : OwnB (w9.alloc (.cells #[.int .u8 111, .int .u8 107, .int .u8 10] 5 (3, 4))) w9.heap.size 5 (.slice (some ⟨w9.heap.size, 0, none⟩) 3 3) [111, 107, 10] :=
          ⟨rfl, Or.inr ⟨w9.heap.size, 3, _, (3, 4), rfl, Nat.le_refl _, heap_alloc_new w9 _, Or.inr (by decide), by decide, by decide, rfl, rfl⟩⟩
        have HOb := Lib.hid hOb
        clear hOb
        have kc := fun (w : World) (C : Array Value) (n c : Nat) => Lib.run_convert_bytes_const (P := Tryz.prog) w 23 5 C n c Tryz.underlying23 Tryz.underlying5
        go_wp2_with fail
        refine (rsok_any _ w9.heap.size (by simp) (txtB sPlain) _ [111, 107, 10] HOb.out).mono ?_
        rintro e w3 ⟨v, rfl, hR, hs3⟩
        have hb3 := (H9.out.2.1.alloc (.cells #[.int .u8 111, .int .u8 107, .int .u8 10] 5 (3, 4))).sm hs3 (fun h => h)
        have hlt : b0 + 1 < w9.heap.size := H9.out.2.1.lt
        have hs3 := (H9.out.1.alloc (.cells #[.int .u8 111, .int .u8 107, .int .u8 10] 5 (3, 4))).trans hs3 (fun _ _ h => h)
        rw [HE2.out] at hR
        obtain ⟨vF, vB, vP, rfl, hFF, hB, hP⟩ := hR
        obtain ⟨A1, c1', rfl, _⟩ := hFF.row
        obtain ⟨A2, c2', rfl, _⟩ := hB.row
        obtain ⟨A3, c3', rfl, _⟩ := hP.row
        have HD := Lib.hid (ans_done (by rw [HR0.out]; omega) hs3 hb3 hlt ⟨_, _, _, rfl, hFF, hB, hP⟩)
        have hl := hb3.lt
        have f0 := hb3.fz 0
        have f1 := hb3.fz 1
        have f2 := hb3.fz 2
        have f3 := hb3.fz 3
        have d0 := hb3.at 0 rfl
        have d1 := hb3.at 1 rfl
        have d2 := hb3.at 2 rfl
        have d3 := hb3.at 3 rfl
        clear hFF hB hP hb3 hs3 hlt
        go_wp2_with fail
        have c0 := HD.out.2.at 0 rfl
        have c1 := HD.out.2.at 1 rfl
        have c2 := HD.out.2.at 2 rfl
        have c3 := HD.out.2.at 3 rfl
        exact bodyPost_ret (v := .agg #[.int .i64 R.st, .slice A1 R.fs.length c1', .slice A2 R.body.length c2', .slice A3 R.parts.length c3']) (by simp [results, Tryz.results20, go_sem, c0, c1, c2, c3]) rfl (by have h := HD.out.1; rw [HR0.out] at h; exact h)
      · subst hk
        have hS9 := (HS.out.2.1.sm H9.out.1 (fun h => h))
        have c1 := hS9.at 1 (v := .slice AT T.length cT) rfl
        have hsl := hS9.lt
        obtain ⟨t1, t2, t3⟩ := entCells_at hx
        have hTb := own_rowC_at (own_row_sm HS.out.2.2.1 H9.out.1 (fun _ _ h => h))
        obtain ⟨bb, off, hAe, hbb, r0⟩ := hTb.at t1
        subst hAe
        obtain ⟨_, _, hA1, _, r1⟩ := hTb.at t2
        injection hA1 with hA1; injection hA1 with e1 e2; subst e1 e2
        obtain ⟨_, _, hA1, _, r2⟩ := hTb.at t3
        injection hA1 with hA1; injection hA1 with e1 e2; subst e1 e2
        rw [show off + (k * 3 + 1) = off + k * 3 + 1 by omega] at r1
        rw [show off + (k * 3 + 2) = off + k * 3 + 2 by omega] at r2
        have hkl : k < T.length := (List.getElem?_eq_some_iff.1 hx).1
        have k1 : (0 : Int) ≤ (k : Int) := by omega
        have k2 : (k : Int) < (T.length : Int) := by omega
        have k3 : (k : Int) ≤ 40 := by omega
        have n1 : ¬ (10 + (k : Int)) = 1 := by omega
        have n2 : ¬ (10 + (k : Int)) = 2 := by omega
        have n3 : ¬ (10 + (k : Int)) = 3 := by omega
        have hi : (10 + (k : Int)) - 10 = (k : Int) := by omega
        obtain ⟨s1, s2, s3⟩ := HS.out.2.2.2 x (List.mem_of_getElem? hx)
        have HE2 := Lib.hid (show entA x = R from by
          rw [← HE.out]
          unfold idA
          rw [if_neg n1, if_neg n2, if_neg n3, show ((10 + (k : Int)) - 10).toNat = k by omega, hx])
        obtain ⟨xp, xt, xd⟩ := x
        dsimp only at r0 r1 r2 s1 s2 s3 HE2
        clear hS9 t1 t2 t3 hTb hx q69 q79
        go_wp2_with (refine wpList_bytes_own rfl 9 23 5 _ rfl _ rfl Tryz.underlying9 Tryz.underlying23 Tryz.underlying5 w9.heap.size (by simp) (by unfold maxLen; omega) ?_; intro cB w6 hOB hsB hzB; refine RowKit.Hid.out ?_)
        refine Lib.hid ?_
        simp only [World.size_alloc] at hOB
        have hs6 := (H9.out.1.alloc (.cells #[.string xp, .string xt, .string xd] 56)).trans hsB (fun _ _ h => h)
        have hb6 := (H9.out.2.1.alloc (.cells #[.string xp, .string xt, .string xd] 56)).sm hsB (fun h => h)
        have he6 := (Bk.new w9 56 #[.string xp, .string xt, .string xd]).sm hsB (fun h => h)
        have hw6 : w9.heap.size ≤ w6.heap.size := Nat.le_trans (by simp) hsB.size
        have H6 := Lib.hid (And.intro hs6 (And.intro hb6 (And.intro he6 (And.intro hOB hw6))))
        clear hs6 hb6 he6 hOB hw6 hsB hzB r0 r1 r2 c1 hsl
        go_wp2_with fail
        refine (rsok_anyS w6 w9.heap.size H6.out.2.2.2.2 xt _ (txt xd) H6.out.2.2.2.1).mono ?_
        rintro e w7 ⟨vF, vB, rfl, hvF, hvB, hs7⟩
        obtain ⟨A1, c1', rfl, _⟩ := hvF.row
        obtain ⟨nb, hnb⟩ : ∃ nb, (txt xd).length = nb := ⟨_, rfl⟩
        obtain ⟨A2, c2', rfl, _⟩ := hvB.row
        rw [hnb]
        have hvB : ∃ l, txt xd = l ∧ ownsU w7 w9.heap.size 5 1 (.slice A2 nb c2') l.length (byteV l) := ⟨_, rfl, by rw [← hnb]; exact hvB⟩
        obtain ⟨ld, hld, hvB⟩ := hvB
        have he7 := H6.out.2.2.1.sm hs7 (fun h => h)
        have hb7 := H6.out.2.1.sm hs7 (fun h => h)
        have hs7w := H6.out.1.trans hs7 (fun _ _ h => h)
        have e71 := he7.at 1 (v := .string xt) rfl
        have e72 := he7.at 2 (v := .string xd) rfl
        have hel := he7.lt
        have hlt9 : b0 + 1 < w9.heap.size := H9.out.2.1.lt
        have H7 := Lib.hid (And.intro hs7w (And.intro hb7 (And.intro he7 (And.intro hvF (And.intro hvB (And.intro hlt9 (And.intro hnb hld)))))))
        clear hs7 hvF hvB he7 hb7 hs7w hnb hld
        obtain ⟨bp, hbp⟩ : ∃ bp, Lib.hasPrefix (txt xt) sStream = bp := ⟨_, rfl⟩
        have hpre : (bp = false ∧ (6 ≤ xt.size → ((xt.extract 0 6).toList == [115, 116, 114, 101, 97, 109]) = false)) ∨ (bp = true ∧ 6 ≤ xt.size ∧ ((xt.extract 0 6).toList == [115, 116, 114, 101, 97, 109]) = true) := by
          cases bp with
          | false => exact Or.inl ⟨rfl, fun h => (pre6 h).symm.trans hbp⟩
          | true => exact Or.inr ⟨rfl, pre6_le hbp, (pre6 (pre6_le hbp)).symm.trans hbp⟩
        rcases hpre with ⟨rfl, hno⟩ | ⟨rfl, h6, hp6⟩
        · have hbO := Bk.new w7 52 #[.int .i64 200, .slice A1 1 c1', .slice A2 nb c2', .slice none 0 0]
          have hR : RspV (w7.alloc (.cells #[.int .i64 200, .slice A1 1 c1', .slice A2 nb c2', .slice none 0 0] 52)) w9.heap.size (.agg #[.int .i64 200, .slice A1 1 c1', .slice A2 nb c2', .slice none 0 0]) R := by
            rw [← HE2.out]
            unfold entA
            dsimp only
            rw [if_neg (by rw [hbp]; decide), H7.out.2.2.2.2.2.2.2]
            exact ⟨_, _, _, rfl, H7.out.2.2.2.1.no ((Sm.refl No w7).alloc _), H7.out.2.2.2.2.1.no ((Sm.refl No w7).alloc _), ownsU.nil _ _ _ _⟩
          have hb3 := H7.out.2.1.alloc (.cells #[.int .i64 200, .slice A1 1 c1', .slice A2 nb c2', .slice none 0 0] 52)
          have hs3 := H7.out.1.alloc (.cells #[.int .i64 200, .slice A1 1 c1', .slice A2 nb c2', .slice none 0 0] 52)
          have hlt : b0 + 1 < w9.heap.size := H7.out.2.2.2.2.2.1
          by_cases h6 : 6 ≤ xt.size
          · have hp6 := hno h6
            have hp6n : ¬ (xt.extract 0 6).toList = [115, 116, 114, 101, 97, 109] := by simpa using hp6
            have i6 : (6 : Int) ≤ (xt.size : Int) := by omega
            clear hbp hno
            have HD := Lib.hid (ans_done (by rw [HR0.out]; omega) hs3 hb3 hlt hR)
            have hl := hb3.lt
            have f0 := hb3.fz 0
            have f1 := hb3.fz 1
            have f2 := hb3.fz 2
            have f3 := hb3.fz 3
            have d0 := hb3.at 0 rfl
            have d1 := hb3.at 1 rfl
            have d2 := hb3.at 2 rfl
            have d3 := hb3.at 3 rfl
            have o0 := hbO.at 0 (v := .int .i64 200) rfl
            have o1 := hbO.at 1 (v := .slice A1 1 c1') rfl
            have o2 := hbO.at 2 (v := .slice A2 nb c2') rfl
            have o3 := hbO.at 3 (v := .slice none 0 0) rfl
            have hol := hbO.lt
            clear hb3 hs3 hlt hR hbO
            go_wp2_with fail
            have c0 := HD.out.2.at 0 rfl
            have c1 := HD.out.2.at 1 rfl
            have c2 := HD.out.2.at 2 rfl
            have c3 := HD.out.2.at 3 rfl
            exact bodyPost_ret (v := .agg #[.int .i64 200, .slice A1 1 c1', .slice A2 nb c2', .slice none 0 0]) (by simp [results, Tryz.results20, go_sem, c0, c1, c2, c3]) rfl (by have h := HD.out.1; rw [HR0.out] at h; exact h)
          · have i6 : ¬ (6 : Int) ≤ (xt.size : Int) := by omega
            clear hbp hno
            have HD := Lib.hid (ans_done (by rw [HR0.out]; omega) hs3 hb3 hlt hR)
            have hl := hb3.lt
            have f0 := hb3.fz 0
            have f1 := hb3.fz 1
            have f2 := hb3.fz 2
            have f3 := hb3.fz 3
            have d0 := hb3.at 0 rfl
            have d1 := hb3.at 1 rfl
            have d2 := hb3.at 2 rfl
            have d3 := hb3.at 3 rfl
            have o0 := hbO.at 0 (v := .int .i64 200) rfl
            have o1 := hbO.at 1 (v := .slice A1 1 c1') rfl
            have o2 := hbO.at 2 (v := .slice A2 nb c2') rfl
            have o3 := hbO.at 3 (v := .slice none 0 0) rfl
            have hol := hbO.lt
            clear hb3 hs3 hlt hR hbO
            go_wp2_with fail
            have c0 := HD.out.2.at 0 rfl
            have c1 := HD.out.2.at 1 rfl
            have c2 := HD.out.2.at 2 rfl
            have c3 := HD.out.2.at 3 rfl
            exact bodyPost_ret (v := .agg #[.int .i64 200, .slice A1 1 c1', .slice A2 nb c2', .slice none 0 0]) (by simp [results, Tryz.results20, go_sem, c0, c1, c2, c3]) rfl (by have h := HD.out.1; rw [HR0.out] at h; exact h)
        · have hp6n : (xt.extract 0 6).toList = [115, 116, 114, 101, 97, 109] := by simpa using hp6
          have i6 : (6 : Int) ≤ (xt.size : Int) := by omega
          have HBP := Lib.hid hbp
          clear hbp
          go_wp2_with fail
          go_loopw [15] (fun i wr => EnT w7 w7.heap.size (.slice A1 1 c1') (.slice A2 nb c2') xd.size i wr) (fun i _ => xd.size + 32 - (intOf i).toNat)
          case atStart => exact ⟨0, .slice none 0 0, Or.inr rfl, rfl, ownsU.nil _ _ _ _, Bk.new w7 _ _, (Sm.refl No w7).alloc _⟩
          case round =>
            obtain ⟨j, vP, hj, rfl, hO, hbO, hsr⟩ := hrel
            obtain ⟨A3, c3', rfl, _⟩ := hO.row
            have he8 := H7.out.2.2.1.sm hsr (fun h => h)
            have e82 := he8.at 2 (v := .string xd) rfl
            have hel8 := he8.lt
            have hgl := hbO.lt
            have hjz : j ≤ 100000 := by omega
            clear e71 e72 he8
            by_cases hlt : 16 * (j + 1) < xd.size
            · have i0 : (0 : Int) ≤ 16 * ((j : Int) + 1) := by omega
              have i1 : (16 : Int) * ((j : Int) + 1) < (xd.size : Int) := by omega
              have i2 : (16 : Int) * ((j : Int) + 1) ≤ 1000000 := by omega
              have hmn : min (16 * (j + 1)) xd.size = 16 * (j + 1) := by omega
              have r3 := hbO.at 3 (v := .slice A3 j c3') rfl
              have HO := Lib.hid (And.intro hO (And.intro hbO (And.intro hsr (And.intro hmn hlt))))
              clear hO hbO hsr hmn
              go_wp2_with (refine wpList_pushU rfl _ _ 50 3 rfl Tryz.underlying50 _ 1 8 infoI8 rfl (by decide) (by decide) (w7.heap.size + 1) j _ _ rfl (HO.out.1.no ((Sm.refl No wr).alloc _)) ⟨wr.heap.size, 0, none⟩ 1 1 [.int .i64 (16 * ((j : Int) + 1))] rfl rfl (rowC_bk (Bk.new wr _ _)) (by simp [Value.oneCell']) (by omega) (by simp; omega) ?_; intro v' w5 hown5 hs5 _; obtain ⟨A5, c5, rfl, _⟩ := hown5.row; have hb5 := (HO.out.2.1.alloc (.cells #[.int .i64 (16 * ((j : Int) + 1))] 3)).sm hs5 (fun e => by have := (HO.out.1.lt _ e).1; omega); have d5 := hb5.at 3 rfl; have f5 := hb5.fz 3; have l5 := hb5.lt; have H5 := Lib.hid (And.intro hown5 hs5); refine RowKit.Hid.out ?_)
              refine Lib.hid ?_
              clear hown5 hs5 hb5 r3 e82
              go_wp2_with fail
              obtain ⟨j', vP', _, h2, h3, h4, h5⟩ := EnR.push (b := .int .i64 (16 * (((j + 1 : Nat) : Int) + 1))) rfl (show j < (xd.size + 15) / 16 by have := HO.out.2.2.2.2; omega) HO.out.1 HO.out.2.1 HO.out.2.2.1 (by rw [HO.out.2.2.2.1, show ((16 * (j + 1) : Nat) : Int) = 16 * ((j : Int) + 1) by omega]; exact H5.out.1) H5.out.2 rfl
              have hjj : j' = j + 1 := by injection h2 with _ h2; omega
              subst hjj
              exact ⟨⟨j + 1, vP', Or.inl HO.out.2.2.2.2, by rw [show (16 : Int) * ((j : Int) + 1) + 16 = 16 * (((j + 1 : Nat) : Int) + 1) by omega], h3, h4, h5⟩, by simp [intOf]; omega⟩
            · have i1 : ¬ (16 : Int) * ((j : Int) + 1) < (xd.size : Int) := by omega
              by_cases hn : xd.size = 0
              · have i2 : ¬ (0 : Int) < (xd.size : Int) := by omega
                have hj2 : j = (xd.size + 15) / 16 := by omega
                have hR : RspV wr w9.heap.size (.agg #[.int .i64 200, .slice A1 1 c1', .slice A2 nb c2', .slice A3 j c3']) R := by
                  rw [← HE2.out]
                  unfold entA
                  dsimp only
                  rw [if_pos HBP.out, H7.out.2.2.2.2.2.2.2]
                  refine ⟨_, _, _, rfl, H7.out.2.2.2.1.no hsr, H7.out.2.2.2.2.1.no hsr, ?_⟩
                  have h := hO.base (C := w9.heap.size) (fun b e => by have := (hO.lt b e).1; omega)
                  rw [parts_all _ _ hj2] at h
                  have e : (partsL xd.size).length = j := by rw [parts_len]; omega
                  show ownsU wr _ _ 1 _ (partsL xd.size).length _
                  rw [e]
                  exact h
                have hb3 := H7.out.2.1.sm hsr (fun h => h)
                have hs3 := H7.out.1.trans hsr (fun _ _ h => h)
                have hlt : b0 + 1 < w9.heap.size := H7.out.2.2.2.2.2.1
                clear hO hsr hj2
                have HD := Lib.hid (ans_done (by rw [HR0.out]; omega) hs3 hb3 hlt hR)
                have hl := hb3.lt
                have f0 := hb3.fz 0
                have f1 := hb3.fz 1
                have f2 := hb3.fz 2
                have f3 := hb3.fz 3
                have d0 := hb3.at 0 rfl
                have d1 := hb3.at 1 rfl
                have d2 := hb3.at 2 rfl
                have d3 := hb3.at 3 rfl
                have o0 := hbO.at 0 (v := .int .i64 200) rfl
                have o1 := hbO.at 1 (v := .slice A1 1 c1') rfl
                have o2 := hbO.at 2 (v := .slice A2 nb c2') rfl
                have o3 := hbO.at 3 (v := .slice A3 j c3') rfl
                have hol := hbO.lt
                clear hb3 hs3 hlt hR hbO
                go_wp2_with fail
                have c0 := HD.out.2.at 0 rfl
                have c1 := HD.out.2.at 1 rfl
                have c2 := HD.out.2.at 2 rfl
                have c3 := HD.out.2.at 3 rfl
                exact bodyPost_ret (v := .agg #[.int .i64 200, .slice A1 1 c1', .slice A2 nb c2', .slice A3 j c3']) (by simp [results, Tryz.results20, go_sem, c0, c1, c2, c3]) rfl (by have h := HD.out.1; rw [HR0.out] at h; exact h)
              · have i2 : (0 : Int) < (xd.size : Int) := by omega
                have hj2 : j < (xd.size + 15) / 16 := by omega
                have hj3 : j + 1 = (xd.size + 15) / 16 := by omega
                have hmn : min (16 * (j + 1)) xd.size = xd.size := by omega
                have r3 := hbO.at 3 (v := .slice A3 j c3') rfl
                have HO := Lib.hid (And.intro hO (And.intro hbO (And.intro hsr (And.intro hmn (And.intro hj2 hj3)))))
                have hbr := H7.out.2.1.sm hsr (fun h => h)
                have HB := Lib.hid hbr
                have hne : b0 + 1 < w7.heap.size := H7.out.2.1.lt
                clear hO hbO hsr hmn hj2 hj3 hbr
                go_wp2_with (refine wpList_pushU rfl _ _ 50 3 rfl Tryz.underlying50 _ 1 8 infoI8 rfl (by decide) (by decide) (w7.heap.size + 1) j _ _ rfl (HO.out.1.no ((Sm.refl No wr).alloc _)) ⟨wr.heap.size, 0, none⟩ 1 1 [.int .i64 (xd.size : Int)] rfl rfl (rowC_bk (Bk.new wr _ _)) (by simp [Value.oneCell']) (by omega) (by simp; omega) ?_; intro v' w5 hown5 hs5 _; obtain ⟨A5, c5, rfl, _⟩ := hown5.row; have hb5 := (HO.out.2.1.alloc (.cells #[.int .i64 (xd.size : Int)] 3)).sm hs5 (fun e => by have := (HO.out.1.lt _ e).1; omega); have o0 := hb5.at 0 (v := .int .i64 200) rfl; have o1 := hb5.at 1 (v := .slice A1 1 c1') rfl; have o2 := hb5.at 2 (v := .slice A2 nb c2') rfl; have d5 := hb5.at 3 rfl; have f5 := hb5.fz 3; have l5 := hb5.lt; have H5 := Lib.hid (And.intro hown5 hs5); have hbr5 := (HB.out.alloc (.cells #[.int .i64 (xd.size : Int)] 3)).sm hs5 (fun e => by have := (HO.out.1.lt _ e).1; omega); have d0 := hbr5.at 0 rfl; have d1 := hbr5.at 1 rfl; have d2 := hbr5.at 2 rfl; have d3 := hbr5.at 3 rfl; have f0 := hbr5.fz 0; have f1 := hbr5.fz 1; have f2 := hbr5.fz 2; have f3 := hbr5.fz 3; have HB5 := Lib.hid hbr5; have hl5 := hbr5.lt; refine RowKit.Hid.out ?_)
                refine Lib.hid ?_
                clear hown5 hs5 hb5 r3 e82 hbr5
                have n1 : ¬ b0 + 1 = w7.heap.size := by omega
                have n2 : ¬ w7.heap.size = b0 + 1 := by omega
                go_wp2_with fail
                have h6 : Sm (fun b => b = w7.heap.size) w5 (w5.setCell ⟨w7.heap.size, 3, none⟩ (.slice A5 (j + 1) c5)) := (Sm.refl _ w5).set1 3 _
                have hOS := H5.out.1.sm h6 (fun b e1 e2 => by have := (H5.out.1.lt b e1).1; omega)
                have hsS : Sm No w7 (w5.setCell ⟨w7.heap.size, 3, none⟩ (.slice A5 (j + 1) c5)) := ((HO.out.2.2.1.alloc (.cells #[.int .i64 (xd.size : Int)] 3)).fresh H5.out.2 (fun b e => by have := (HO.out.1.lt b e).1; omega)).fresh h6 (fun b e => by omega)
                have hb3 := HB5.out.sm h6 (fun e => by omega)
                have hR : RspV (w5.setCell ⟨w7.heap.size, 3, none⟩ (.slice A5 (j + 1) c5)) w9.heap.size (.agg #[.int .i64 200, .slice A1 1 c1', .slice A2 nb c2', .slice A5 (j + 1) c5]) R := by
                  rw [← HE2.out]
                  unfold entA
                  dsimp only
                  rw [if_pos HBP.out, H7.out.2.2.2.2.2.2.2]
                  refine ⟨_, _, _, rfl, H7.out.2.2.2.1.no hsS, H7.out.2.2.2.2.1.no hsS, ?_⟩
                  have h := hOS.base (C := w9.heap.size) (fun b e => by have := (hOS.lt b e).1; omega)
                  have e2 : intsV ((partsL xd.size).take j) ++ [.int .i64 (xd.size : Int)] = intsV (partsL xd.size) := by
                    have e3 := parts_take _ _ HO.out.2.2.2.2.1
                    rw [HO.out.2.2.2.1, parts_all _ _ HO.out.2.2.2.2.2] at e3
                    rw [← intsV_snoc, ← e3]
                  rw [e2] at h
                  have e : (partsL xd.size).length = j + 1 := by rw [parts_len]; exact HO.out.2.2.2.2.2.symm
                  show ownsU _ _ _ 1 _ (partsL xd.size).length _
                  rw [e]
                  exact h
                have HD := Lib.hid (ans_done (by rw [HR0.out]; omega) (H7.out.1.trans hsS (fun _ _ h => h)) hb3 H7.out.2.2.2.2.2.1 hR)
                have c0 := HD.out.2.at 0 rfl
                have c1 := HD.out.2.at 1 rfl
                have c2 := HD.out.2.at 2 rfl
                have c3 := HD.out.2.at 3 rfl
                exact bodyPost_ret (v := .agg #[.int .i64 200, .slice A1 1 c1', .slice A2 nb c2', .slice A5 (j + 1) c5]) (by simp [results, Tryz.results20, go_sem, c0, c1, c2, c3]) rfl (by have h := HD.out.1; rw [HR0.out] at h; exact h)
set_option maxRecDepth 100000 in
set_option maxHeartbeats 16000000 in
theorem rserve_3 (w : World) (hg : G1 w) (O : Nat → Prop) (s : Nat) (T : List Ent) (h : IsSiteX w O s T) (hc : siteC T = 0) (hsm : SmallE T) (q : Rq) (A : Option Addr) (c : Nat) (B : Option Addr) (d : Nat) (hq : RqOk w q A c B d) (hf : ¬ q.form = 4) (hf3 : ¬ q.form = 3) (hm4 : txt q.m ∈ m4) (g1 : (q.m.toList == [71, 69, 84]) = false) (g2 : (q.m.toList == [72, 69, 65, 68]) = false) (g3 : (q.m.toList == [80, 79, 83, 84]) = false) (g4 : (q.m.toList == [79, 80, 84, 73, 79, 78, 83]) = true) :
    Calls Tryz.prog 20 #[.pointer (some ⟨s, 0, none⟩), reqV q A c B d] w (AnsPost w w.heap.size (serveL T q)) := by
  have hT := table_40 hc
  obtain ⟨Q, AT, cT, v0, hR, hE, hS⟩ := h.parts
  obtain ⟨m, form, host, path, query, minor, fs, body, close, expect⟩ := q
  have HQ := Lib.hid hq
  dsimp only at hf hf3 hm4 g1 g2 g3 g4
  have HS := Lib.hid (And.intro hR (And.intro hS (And.intro hE hsm)))
  have HG := Lib.hid hg
  clear hR hS hE hsm hg hq h
  unfold reqV
  dsimp only at HQ ⊢
  obtain ⟨R, hRR⟩ : ∃ R, serveL T ⟨m, form, host, path, query, minor, fs, body, close, expect⟩ = R := ⟨_, rfl⟩
  rw [hRR]
  have HRR := Lib.hid hRR
  clear hRR
  obtain ⟨b0, hb0⟩ : ∃ b0, w.heap.size = b0 := ⟨_, rfl⟩
  have HR0 := Lib.hid hb0
  rw [hb0]
  clear hb0
  go_enter Tryz.func20, Tryz.ntmps20
  have HM := Lib.hid (fun (h : txt m ∉ m4) => h hm4)
  have g0 : (form == 3) = false := by rw [beq_eq_false_iff_ne]; exact hf3
  clear hm4
  go_wp2_with fail
  rw [HR0.out]
  obtain ⟨w1, hw1⟩ : ∃ w1, (w.alloc (.cells #[.string m, .int .i64 form, .string host, .string path, .string query, .int .i64 minor, .slice A fs.length c, .slice B body.length d, .bool close, .bool expect] 29)).alloc (.cells #[.int .i64 0, .slice none 0 0, .slice none 0 0, .slice none 0 0] 52) = w1 := ⟨_, rfl⟩
  rw [hw1]
  have hs1 : Sm No w w1 := by rw [← hw1]; exact ((Sm.refl No w).alloc _).alloc _
  have hbq : Bk w1 b0 29 #[.string m, .int .i64 form, .string host, .string path, .string query, .int .i64 minor, .slice A fs.length c, .slice B body.length d, .bool close, .bool expect] := by rw [← hw1, ← HR0.out]; exact (Bk.new w _ _).alloc _
  have hbr : Bk w1 (b0 + 1) 52 #[.int .i64 0, .slice none 0 0, .slice none 0 0, .slice none 0 0] := by rw [← hw1]; exact Bk.newAt _ _ _ (by rw [← HR0.out]; simp)
  have hz1 : b0 + 1 + 1 = w1.heap.size := by rw [← hw1, ← HR0.out]; simp
  have H1 := Lib.hid (And.intro hs1 (And.intro hbq hbr))
  clear hs1 hbq hbr hw1
  have hno : ¬ (form = 3 ∨ txt m ∉ m4) := fun h => by
    rcases h with h | h
    · exact hf3 h
    · exact HM.out h
  have hm2 := serve_m HRR.out hf hno
  have hms := (match_site T (txt m) (txt path)).resolve_right (by omega)
  have hMP := fun (W : World) (hW : IsTwin 75 [.slice AT T.length cT] W Q s (routesL T)) => rmatch_any W Q s (routesL T) m path hW (by rw [routes_len]; omega) (fine_pats hT hc) (fun x hx => (fine_routes hT).2 x hx) (by have := HQ.out.2.2.2.2.2.1; dsimp only at this; omega)
  unfold MatchPost at hMP
  dsimp only at hm2
  obtain ⟨⟨i, rest, al, st⟩, hM⟩ : ∃ M, matchL (routesL T) (txt m) (txt path) = M := ⟨_, rfl⟩
  rw [hM] at hm2 hms
  simp only [hM] at hMP
  obtain ⟨rb, hrb⟩ : ∃ rb : ByteArray, strB rest = .string rb := ⟨_, rfl⟩
  rw [hrb] at hMP
  dsimp only at hm2 hms
  have HMP := Lib.hid hMP
  have HM2 := Lib.hid hm2
  have HMS := Lib.hid hms
  clear hm2 hms hMP hM hrb hno
  have q3 := H1.out.2.1.at 3 (v := .string path) rfl
  have hql := H1.out.2.1.lt
  go_wp2_with fail
  go_region_held3 (fun w' => w'.cell? ⟨b0, 3, none⟩ = some (.string path)) (first | exact q3 | exact q39 | go_keep)
    ((go_at_call 50; (with_reducible refine (HMP.out _ (HS.out.1.no (H1.out.1.drew))).mono ?_); rintro e w9 ⟨v9, rfl, hv9, hs9⟩; have q39 := hs9.cell hql q3))
  all_goals
    obtain ⟨AV, cV, rfl, hrV, hcV, _⟩ := own_rowC hv9
    have hs19 : Sm No w w9 := H1.out.1.drew.trans hs9 (fun _ _ h => h)
    have hbr9 := H1.out.2.2.drew.sm hs9 (fun h => h)
    have hbq9 := H1.out.2.1.drew.sm hs9 (fun h => h)
    have H9 := Lib.hid (And.intro hs19 (And.intro hbr9 (And.intro hbq9 (And.intro hrV hcV))))
    have q69 := hbq9.at 6 (v := .slice A fs.length c) rfl
    have q79 := hbq9.at 7 (v := .slice B body.length d) rfl
    have hql := hbq9.lt
    clear hs9 hv9 hs19 hbr9 hbq9 hrV hcV q39 q3
    rcases HMS.out with h404 | ⟨h405, hsml⟩ | ⟨h200, hid⟩
    · subst h404
      have HE := Lib.hid (show cannedL 404 [] = R from by have e := HM2.out; rw [if_pos rfl] at e; exact e)
      go_wp2_with fail
      refine (rCanned_any w9 (HG.out.no (H9.out.1)) 404 (by decide) (by decide) none 0 [] (fun k hk => by cases hk) (fun _ => ⟨rfl, rfl⟩) (by decide)).mono ?_
      rintro e w3 ⟨v, rfl, hR, hs3⟩
      have hb3 := (H9.out.2.1).sm hs3 (fun h => h)
      have hs3 := (H9.out.1).trans hs3 (fun _ _ h => h)
      have hlt : b0 + 1 < w9.heap.size := (H9.out.2.1).lt
      rw [show cannedL 404 [] = R from HE.out] at hR
      obtain ⟨vF, vB, vP, rfl, hFF, hB, hP⟩ := hR
      obtain ⟨A1, c1', rfl, _⟩ := hFF.row
      obtain ⟨A2, c2', rfl, _⟩ := hB.row
      obtain ⟨A3, c3', rfl, _⟩ := hP.row
      have HD := Lib.hid (ans_done (by rw [HR0.out]; omega) hs3 hb3 hlt ⟨_, _, _, rfl, hFF, hB, hP⟩)
      have hl := hb3.lt
      have f0 := hb3.fz 0
      have f1 := hb3.fz 1
      have f2 := hb3.fz 2
      have f3 := hb3.fz 3
      have d0 := hb3.at 0 rfl
      have d1 := hb3.at 1 rfl
      have d2 := hb3.at 2 rfl
      have d3 := hb3.at 3 rfl
      clear hFF hB hP hb3 hs3 hlt
      go_wp2_with fail
      have c0 := HD.out.2.at 0 rfl
      have c1 := HD.out.2.at 1 rfl
      have c2 := HD.out.2.at 2 rfl
      have c3 := HD.out.2.at 3 rfl
      exact bodyPost_ret (v := .agg #[.int .i64 R.st, .slice A1 R.fs.length c1', .slice A2 R.body.length c2', .slice A3 R.parts.length c3']) (by simp [results, Tryz.results20, go_sem, c0, c1, c2, c3]) rfl (by have h := HD.out.1; rw [HR0.out] at h; exact h)
    · subst h405
      by_cases hO : txt m = OPTS
      · have e1 : (m.toList == [79, 80, 84, 73, 79, 78, 83]) = true := by rw [beq_txt]; exact decide_eq_true hO
        have e2 : m.toList = [79, 80, 84, 73, 79, 78, 83] := by simpa using e1
        obtain ⟨fa, hfa⟩ : ∃ fa, (allowF al).1 = fa := ⟨_, rfl⟩
        obtain ⟨fb, hfb⟩ : ∃ fb, (allowF al).2 = fb := ⟨_, rfl⟩
        have HE := Lib.hid (show cannedL 204 [(fa, fb)] = R from by have e := HM2.out; rw [if_neg (by decide), if_pos rfl, if_pos hO] at e; rw [← hfa, ← hfb]; exact e)
        have HAL := Lib.hid (rsallow_any w9 AV cV al H9.out.2.2.2.1 hsml)
        rw [hfa, hfb] at HAL
        clear hfa hfb
        go_wp2_with fail
        refine HAL.out.mono ?_
        rintro e w10 ⟨rfl, hs10⟩
        have H10 := Lib.hid (And.intro (H9.out.1.trans hs10 (fun _ _ h => h)) (H9.out.2.1.sm hs10 (fun h => h)))
        clear hs10 HAL
        go_wp2_with fail
        refine (rCanned_any (w10.alloc (.cells #[.string fa, .string fb] 65)) (HG.out.no (H10.out.1.alloc _)) 204 (by decide) (by decide) (some ⟨w10.heap.size, 0, none⟩) 1 [(fa, fb)] (fRow_one (Bk.new w10 _ _)) (fun e => by cases e) (by simp)).mono ?_
        rintro e w3 ⟨v, rfl, hR, hs3⟩
        have hb3 := ((H10.out.2).alloc (.cells #[.string fa, .string fb] 65)).sm hs3 (fun h => h)
        have hs3 := ((H10.out.1).alloc (.cells #[.string fa, .string fb] 65)).trans hs3 (fun _ _ h => h)
        have hlt : b0 + 1 < (w10.alloc (.cells #[.string fa, .string fb] 65)).heap.size := Nat.lt_of_lt_of_le (H10.out.2).lt (by simp)
        rw [HE.out] at hR
        obtain ⟨vF, vB, vP, rfl, hFF, hB, hP⟩ := hR
        obtain ⟨A1, c1', rfl, _⟩ := hFF.row
        obtain ⟨A2, c2', rfl, _⟩ := hB.row
        obtain ⟨A3, c3', rfl, _⟩ := hP.row
        have HD := Lib.hid (ans_done (by rw [HR0.out]; omega) hs3 hb3 hlt ⟨_, _, _, rfl, hFF, hB, hP⟩)
        have hl := hb3.lt
        have f0 := hb3.fz 0
        have f1 := hb3.fz 1
        have f2 := hb3.fz 2
        have f3 := hb3.fz 3
        have d0 := hb3.at 0 rfl
        have d1 := hb3.at 1 rfl
        have d2 := hb3.at 2 rfl
        have d3 := hb3.at 3 rfl
        clear hFF hB hP hb3 hs3 hlt
        go_wp2_with fail
        have c0 := HD.out.2.at 0 rfl
        have c1 := HD.out.2.at 1 rfl
        have c2 := HD.out.2.at 2 rfl
        have c3 := HD.out.2.at 3 rfl
        exact bodyPost_ret (v := .agg #[.int .i64 R.st, .slice A1 R.fs.length c1', .slice A2 R.body.length c2', .slice A3 R.parts.length c3']) (by simp [results, Tryz.results20, go_sem, c0, c1, c2, c3]) rfl (by have h := HD.out.1; rw [HR0.out] at h; exact h)
      · exact absurd (show txt m = OPTS from by have h := eq_of_beq g4; rw [ByteArray.toList_eq] at h; exact h) hO
    · subst h200
      have HE := Lib.hid (show idA T ⟨m, form, host, path, query, minor, fs, body, close, expect⟩ i = R from by have e := HM2.out; rw [if_neg (by decide), if_neg (by decide)] at e; exact e)
      rcases hid with h1 | h2 | h3 | ⟨k, x, hx, hk⟩
      · subst h1
        have hsh : Short fs := fun y hy => ⟨by have := (HQ.out.2.2.2.2.2.2.2.1 y hy).1; omega, by have := (HQ.out.2.2.2.2.2.2.2.1 y hy).2; omega⟩
        have hgl : (getL (addL [] fs).1 (txtB sCT)).length ≤ 900000 ∨ 24 < (addL [] fs).1.length := by
          by_cases h24 : 24 < (addL [] fs).1.length
          · exact Or.inr h24
          · exact Or.inl (getL_le (fun y hy => by
              rcases addL_mem fs [] y hy with g | ⟨g, _⟩
              · cases g
              · exact (HQ.out.2.2.2.2.2.2.2.1 y g).2) (by omega))
        have HSh := Lib.hid (And.intro (short_addL hsh) hgl)
        have HAd := Lib.hid (rAdd_any (w9.alloc (.cells #[.slice none 0 0] 88)) w9.heap.size w9.heap.size (.slice none 0 0) [] fs A c
          ⟨Bk.new w9 _ _, World.ownsRow_nil _ _ _ _, by simp [Value.ownBlock]⟩ (by decide) ((HQ.out.1.no H9.out.1).no ((Sm.refl No w9).alloc _))
          (fun h0 a ha ht => by
            obtain ⟨bb, off, hAe, hb, _⟩ := (HQ.out.1.no H9.out.1) 0 h0
            rw [ha] at hAe
            injection hAe with hAe
            subst hAe
            rcases ht with ht | ht
            · have ht : bb = w9.heap.size := ht
              omega
            · cases ht) hsh (by have := HQ.out.2.2.2.2.2.2.2.2.1; dsimp only at this; omega) (by simp))
        clear hsh hgl
        go_wp2_with fail
        refine HAd.out.mono ?_
        rintro e w10 ⟨v10, rfl, hF10, hl10, hs10, _⟩
        have hs10 : Sm No w9 w10 := ((Sm.refl No w9).alloc (.cells #[.slice none 0 0] 88)).fresh hs10 (fun b hb => by
          rcases hb with hb | hb
          · omega
          · cases hb)
        have HF10 := Lib.hid (And.intro hF10 hs10)
        have hgl := HSh.out.2.resolve_right (by omega)
        clear hF10 hs10 HAd
        go_wp2_with fail
        refine (rGet_any w10 _ _ v10 _ (txtB sCT) HF10.out.1 hl10 HSh.out.1 (by decide)).mono ?_
        rintro e w11 ⟨gt, hgt2, rfl, hs11⟩
        have hgs : gt.size ≤ 900000 := by
          have : gt.data.toList.length ≤ 900000 := by rw [hgt2]; exact hgl
          simpa using this
        obtain ⟨tr, htr⟩ : ∃ tr : ByteArray, (⟨(trimL gt.data.toList).toArray⟩ : ByteArray) = tr := ⟨_, rfl⟩
        have HTr := Lib.hid htr
        have HS11 := Lib.hid (And.intro (HF10.out.2.trans hs11 (fun _ _ h => h)) (And.intro hgt2 hgs))
        clear hgt2 hgl hs11 htr
        go_wp2_with fail
        refine (rTrim_say HTr (by omega) w11).mono ?_
        rintro e w12 ⟨rfl, hs12⟩
        have hs912 : Sm No w9 w12 := by rw [← hs12]; exact HS11.out.1
        have hb12 := H9.out.2.2.1.sm hs912 (fun h => h)
        have q79 := hb12.at 7 (v := .slice B body.length d) rfl
        have hql := hb12.lt
        have H12 := Lib.hid (And.intro hs912 hb12)
        clear hs12 hs912 hb12 q69
        have htr : txt tr = trimL (getL (addL [] fs).1 (txtB sCT)) := by rw [← HTr.out, HS11.out.2.1]; rfl
        by_cases hz : tr.size = 0
        · have htz : txt tr = [] := List.eq_nil_of_length_eq_zero (by rw [txt_len]; exact hz)
          have e2 : tr.toList = [] := by rw [ByteArray.toList_eq]; exact htz
          have HE2 := Lib.hid (show okL (txtB sOctet) body = R from by
            rw [← HE.out]
            unfold idA typeL
            rw [if_pos rfl, if_pos (htr.symm.trans htz)])
          clear htr htz
          go_wp2_with (refine wpList_push_opt rfl _ _ 23 5 rfl Tryz.underlying23 _ 1 1 infoU8 rfl (by decide) (by decide) w12.heap.size 0 _ [] rfl (own_empty w12 _ _ (Nat.le_refl _)) B body.length d (byteV body) rfl HQ.out.2.2.2.1 (by rw [byteV_len, Nat.mul_one]) ((HQ.out.2.2.1.no (H9.out.1.trans H12.out.1 (fun _ _ h => h))).no ((Sm.refl No w12).alloc _)) (byteV_one body) (by have := HQ.out.2.2.2.2.2.2.2.2.2; dsimp only at this; omega) (by simp) ?_; intro vb w13 hown hs13 _; refine RowKit.Hid.out ?_)
          refine Lib.hid ?_
          have hvb : OwnB w13 w12.heap.size 5 vb body := by
            have h := ownsU.of hown
            rw [Nat.zero_add, List.nil_append] at h
            exact h
          have hs13 : Sm No w12 w13 := ((Sm.refl No w12).alloc (.cells #[] 5)).fresh hs13 (fun b hb => by
            have hb : some w12.heap.size = some b := hb
            injection hb with hb
            omega)
          have HS13 := Lib.hid (And.intro hvb hs13)
          clear hown hvb hs13
          obtain ⟨vA, vc, rfl, _⟩ := HS13.out.1.row
          go_wp2_with fail
          refine (rsok_any w13 w12.heap.size HS13.out.2.size (txtB sOctet) _ body HS13.out.1).mono ?_
          rintro e w3 ⟨v, rfl, hR, hs3⟩
          have hb3 := ((H9.out.2.1.sm H12.out.1 (fun h => h)).sm HS13.out.2 (fun h => h)).sm hs3 (fun h => h)
          have hlt : b0 + 1 < w12.heap.size := (H9.out.2.1.sm H12.out.1 (fun h => h)).lt
          have hs3 := ((H9.out.1.trans H12.out.1 (fun _ _ h => h)).trans HS13.out.2 (fun _ _ h => h)).trans hs3 (fun _ _ h => h)
          rw [HE2.out] at hR
          obtain ⟨vF, vB, vP, rfl, hFF, hB, hP⟩ := hR
          obtain ⟨A1, c1', rfl, _⟩ := hFF.row
          obtain ⟨A2, c2', rfl, _⟩ := hB.row
          obtain ⟨A3, c3', rfl, _⟩ := hP.row
          have HD := Lib.hid (ans_done (by rw [HR0.out]; omega) hs3 hb3 hlt ⟨_, _, _, rfl, hFF, hB, hP⟩)
          have hl := hb3.lt
          have f0 := hb3.fz 0
          have f1 := hb3.fz 1
          have f2 := hb3.fz 2
          have f3 := hb3.fz 3
          have d0 := hb3.at 0 rfl
          have d1 := hb3.at 1 rfl
          have d2 := hb3.at 2 rfl
          have d3 := hb3.at 3 rfl
          clear hFF hB hP hb3 hs3 hlt
          go_wp2_with fail
          have c0 := HD.out.2.at 0 rfl
          have c1 := HD.out.2.at 1 rfl
          have c2 := HD.out.2.at 2 rfl
          have c3 := HD.out.2.at 3 rfl
          exact bodyPost_ret (v := .agg #[.int .i64 R.st, .slice A1 R.fs.length c1', .slice A2 R.body.length c2', .slice A3 R.parts.length c3']) (by simp [results, Tryz.results20, go_sem, c0, c1, c2, c3]) rfl (by have h := HD.out.1; rw [HR0.out] at h; exact h)
        · have htz : ¬ txt tr = [] := fun e => hz (by rw [← txt_len, e]; rfl)
          have e2 : ¬ tr.toList = [] := by rw [ByteArray.toList_eq]; exact htz
          have e2b : tr.toList.isEmpty = false := by
            cases h : tr.toList with
            | nil => exact absurd h e2
            | cons => rfl
          have HE2 := Lib.hid (show okL tr body = R from by
            rw [← HE.out]
            unfold idA typeL
            rw [if_pos rfl, if_neg (fun e => htz (htr.trans e)), ← htr]
            rfl)
          clear htr htz
          go_wp2_with (refine wpList_push_opt rfl _ _ 23 5 rfl Tryz.underlying23 _ 1 1 infoU8 rfl (by decide) (by decide) w12.heap.size 0 _ [] rfl (own_empty w12 _ _ (Nat.le_refl _)) B body.length d (byteV body) rfl HQ.out.2.2.2.1 (by rw [byteV_len, Nat.mul_one]) ((HQ.out.2.2.1.no (H9.out.1.trans H12.out.1 (fun _ _ h => h))).no ((Sm.refl No w12).alloc _)) (byteV_one body) (by have := HQ.out.2.2.2.2.2.2.2.2.2; dsimp only at this; omega) (by simp) ?_; intro vb w13 hown hs13 _; refine RowKit.Hid.out ?_)
          refine Lib.hid ?_
          have hvb : OwnB w13 w12.heap.size 5 vb body := by
            have h := ownsU.of hown
            rw [Nat.zero_add, List.nil_append] at h
            exact h
          have hs13 : Sm No w12 w13 := ((Sm.refl No w12).alloc (.cells #[] 5)).fresh hs13 (fun b hb => by
            have hb : some w12.heap.size = some b := hb
            injection hb with hb
            omega)
          have HS13 := Lib.hid (And.intro hvb hs13)
          clear hown hvb hs13
          obtain ⟨vA, vc, rfl, _⟩ := HS13.out.1.row
          go_wp2_with fail
          refine (rsok_any w13 w12.heap.size HS13.out.2.size tr _ body HS13.out.1).mono ?_
          rintro e w3 ⟨v, rfl, hR, hs3⟩
          have hb3 := ((H9.out.2.1.sm H12.out.1 (fun h => h)).sm HS13.out.2 (fun h => h)).sm hs3 (fun h => h)
          have hlt : b0 + 1 < w12.heap.size := (H9.out.2.1.sm H12.out.1 (fun h => h)).lt
          have hs3 := ((H9.out.1.trans H12.out.1 (fun _ _ h => h)).trans HS13.out.2 (fun _ _ h => h)).trans hs3 (fun _ _ h => h)
          rw [HE2.out] at hR
          obtain ⟨vF, vB, vP, rfl, hFF, hB, hP⟩ := hR
          obtain ⟨A1, c1', rfl, _⟩ := hFF.row
          obtain ⟨A2, c2', rfl, _⟩ := hB.row
          obtain ⟨A3, c3', rfl, _⟩ := hP.row
          have HD := Lib.hid (ans_done (by rw [HR0.out]; omega) hs3 hb3 hlt ⟨_, _, _, rfl, hFF, hB, hP⟩)
          have hl := hb3.lt
          have f0 := hb3.fz 0
          have f1 := hb3.fz 1
          have f2 := hb3.fz 2
          have f3 := hb3.fz 3
          have d0 := hb3.at 0 rfl
          have d1 := hb3.at 1 rfl
          have d2 := hb3.at 2 rfl
          have d3 := hb3.at 3 rfl
          clear hFF hB hP hb3 hs3 hlt
          go_wp2_with fail
          have c0 := HD.out.2.at 0 rfl
          have c1 := HD.out.2.at 1 rfl
          have c2 := HD.out.2.at 2 rfl
          have c3 := HD.out.2.at 3 rfl
          exact bodyPost_ret (v := .agg #[.int .i64 R.st, .slice A1 R.fs.length c1', .slice A2 R.body.length c2', .slice A3 R.parts.length c3']) (by simp [results, Tryz.results20, go_sem, c0, c1, c2, c3]) rfl (by have h := HD.out.1; rw [HR0.out] at h; exact h)
      · subst h2
        have HTb := Lib.hid (own_rowC_at (own_row_sm HS.out.2.2.1 H9.out.1 (fun _ _ h => h)))
        have HE2 := Lib.hid (show keyA T (txt query) = R from by
          rw [← HE.out]
          unfold idA
          rw [if_neg (by decide), if_pos rfl])
        go_wp2_with fail
        go_loopw [12] (fun i wr => SvK w9 T (txt query) i wr) (fun i _ => T.length - (intOf i).toNat)
        case atStart => exact ⟨0, Nat.zero_le _, rfl, by simp, Sm.refl _ _⟩
        case round =>
          obtain ⟨k, hk, rfl, hne, hs⟩ := hrel
          have hs9 := H9.out.1.trans hs (fun _ _ h => h)
          have hbq := H9.out.2.2.1.sm hs (fun h => h)
          have hbr := H9.out.2.1.sm hs (fun h => h)
          have q49 := hbq.at 4 (v := .string query) rfl
          have hql := hbq.lt
          have hS9 := HS.out.2.1.sm hs9 (fun h => h)
          have c1 := hS9.at 1 (v := .slice AT T.length cT) rfl
          have hsl := hS9.lt
          have HK := Lib.hid (And.intro hs9 (And.intro hbr (And.intro hs hne)))
          clear hs9 hbq hbr q69 q79 hS9
          by_cases hlt : k < T.length
          · obtain ⟨x, hx⟩ : ∃ x, T[k]? = some x := ⟨_, List.getElem?_eq_getElem hlt⟩
            obtain ⟨t1, t2, t3⟩ := entCells_at hx
            obtain ⟨bb, off, hAe, hbb, r0⟩ := (HTb.out.no hs).at t1
            subst hAe
            obtain ⟨_, _, hA1, _, r2⟩ := (HTb.out.no hs).at t3
            injection hA1 with hA1; injection hA1 with e1 e2; subst e1 e2
            rw [show off + (k * 3 + 2) = off + k * 3 + 2 by omega] at r2
            have k1 : (0 : Int) ≤ (k : Int) := by omega
            have k2 : (k : Int) < (T.length : Int) := by omega
            obtain ⟨s1, s2, s3⟩ := HS.out.2.2.2 x (List.mem_of_getElem? hx)
            have hqz : query.size ≤ 30000 := HQ.out.2.2.2.2.2.2.1
            have HX := Lib.hid hx
            clear hx t1 t2 t3 hs hne
            by_cases he : txt x.path = 47 :: txt query
            · have e1 : (x.path.toList == (((⟨#[47]⟩ : ByteArray) ++ query).toList)) = true := by
                rw [beq_txt]; exact decide_eq_true (by rw [he, ByteArray.toList_eq]; simp [txt])
              have e2 : x.path.toList = ((⟨#[47]⟩ : ByteArray) ++ query).toList := by simpa using e1
              have HE3 := Lib.hid ((keyA_at HK.out.2.2.2 HX.out he).symm.trans HE2.out)
              clear he
              go_wp2_with fail
              go_quiet (fail)
              go_wp2_with (refine wpList_bytes_own rfl 9 23 5 _ rfl _ rfl Tryz.underlying9 Tryz.underlying23 Tryz.underlying5 wr.heap.size (by simp) (by unfold maxLen; omega) ?_; intro cB w6 hOB hsB hzB; refine RowKit.Hid.out ?_)
              refine Lib.hid ?_
              have hsB := ((Sm.refl No wr).drewN _).trans hsB (fun _ _ h => h)
              have H6 := Lib.hid (And.intro (HK.out.1.trans hsB (fun _ _ h => h)) (And.intro (HK.out.2.1.sm hsB (fun h => h)) (And.intro hOB hsB.size)))
              clear hOB hsB hzB
              go_wp2_with fail
              refine (rsok_any w6 wr.heap.size H6.out.2.2.2 (txtB sPlain) _ (txt x.data) H6.out.2.2.1).mono ?_
              rintro e w3 ⟨v, rfl, hR, hs3⟩
              have hb3 := H6.out.2.1.sm hs3 (fun h => h)
              have hlt : b0 + 1 < wr.heap.size := HK.out.2.1.lt
              have hs3 := H6.out.1.trans hs3 (fun _ _ h => h)
              rw [HE3.out] at hR
              obtain ⟨vF, vB, vP, rfl, hFF, hB, hP⟩ := hR
              obtain ⟨A1, c1', rfl, _⟩ := hFF.row
              obtain ⟨A2, c2', rfl, _⟩ := hB.row
              obtain ⟨A3, c3', rfl, _⟩ := hP.row
              have HD := Lib.hid (ans_done (by rw [HR0.out]; omega) hs3 hb3 hlt ⟨_, _, _, rfl, hFF, hB, hP⟩)
              have hl := hb3.lt
              have f0 := hb3.fz 0
              have f1 := hb3.fz 1
              have f2 := hb3.fz 2
              have f3 := hb3.fz 3
              have d0 := hb3.at 0 rfl
              have d1 := hb3.at 1 rfl
              have d2 := hb3.at 2 rfl
              have d3 := hb3.at 3 rfl
              clear hFF hB hP hb3 hs3 hlt
              go_wp2_with fail
              have c0 := HD.out.2.at 0 rfl
              have c1 := HD.out.2.at 1 rfl
              have c2 := HD.out.2.at 2 rfl
              have c3 := HD.out.2.at 3 rfl
              exact bodyPost_ret (v := .agg #[.int .i64 R.st, .slice A1 R.fs.length c1', .slice A2 R.body.length c2', .slice A3 R.parts.length c3']) (by simp [results, Tryz.results20, go_sem, c0, c1, c2, c3]) rfl (by have h := HD.out.1; rw [HR0.out] at h; exact h)
            · have e1 : (x.path.toList == (((⟨#[47]⟩ : ByteArray) ++ query).toList)) = false := by
                rw [beq_txt]; exact decide_eq_false (fun e => he (by rw [e, ByteArray.toList_eq]; simp [txt]))
              have e2 : ¬ x.path.toList = ((⟨#[47]⟩ : ByteArray) ++ query).toList := by simpa using e1
              have HN := Lib.hid (takeE_all (p := fun x => txt x.path ≠ 47 :: txt query) HK.out.2.2.2 HX.out he)
              clear he
              go_wp2_with fail
              go_quiet (fail)
              go_wp2_with fail
              exact ⟨⟨k + 1, by omega, by go_num, HN.out, HK.out.2.2.1.drewN _⟩, by simp [intOf]; omega⟩
          · obtain rfl : k = T.length := by omega
            rw [List.take_length] at hne
            have HE3 := Lib.hid ((keyA_none hne).symm.trans HE2.out)
            clear hne hs
            go_wp2_with fail
            refine (rCanned_any wr (HG.out.no (HK.out.1)) 404 (by decide) (by decide) none 0 [] (fun k hk => by cases hk) (fun _ => ⟨rfl, rfl⟩) (by decide)).mono ?_
            rintro e w3 ⟨v, rfl, hR, hs3⟩
            have hb3 := (HK.out.2.1).sm hs3 (fun h => h)
            have hs3 := (HK.out.1).trans hs3 (fun _ _ h => h)
            have hlt : b0 + 1 < wr.heap.size := (HK.out.2.1).lt
            rw [show cannedL 404 [] = R from HE3.out] at hR
            obtain ⟨vF, vB, vP, rfl, hFF, hB, hP⟩ := hR
            obtain ⟨A1, c1', rfl, _⟩ := hFF.row
            obtain ⟨A2, c2', rfl, _⟩ := hB.row
            obtain ⟨A3, c3', rfl, _⟩ := hP.row
            have HD := Lib.hid (ans_done (by rw [HR0.out]; omega) hs3 hb3 hlt ⟨_, _, _, rfl, hFF, hB, hP⟩)
            have hl := hb3.lt
            have f0 := hb3.fz 0
            have f1 := hb3.fz 1
            have f2 := hb3.fz 2
            have f3 := hb3.fz 3
            have d0 := hb3.at 0 rfl
            have d1 := hb3.at 1 rfl
            have d2 := hb3.at 2 rfl
            have d3 := hb3.at 3 rfl
            clear hFF hB hP hb3 hs3 hlt
            go_wp2_with fail
            have c0 := HD.out.2.at 0 rfl
            have c1 := HD.out.2.at 1 rfl
            have c2 := HD.out.2.at 2 rfl
            have c3 := HD.out.2.at 3 rfl
            exact bodyPost_ret (v := .agg #[.int .i64 R.st, .slice A1 R.fs.length c1', .slice A2 R.body.length c2', .slice A3 R.parts.length c3']) (by simp [results, Tryz.results20, go_sem, c0, c1, c2, c3]) rfl (by have h := HD.out.1; rw [HR0.out] at h; exact h)
      · subst h3
        have HE2 := Lib.hid (show okL (txtB sPlain) [111, 107, 10] = R from by
          rw [← HE.out]
          unfold idA
          rw [if_neg (by decide), if_neg (by decide), if_pos rfl])
        have hOb : OwnB (w9.alloc (.cells #[.int .u8 111, .int .u8 107, .int .u8 10] 5 (3, 4))) w9.heap.size 5 (.slice (some ⟨w9.heap.size, 0, none⟩) 3 3) [111, 107, 10] :=
          ⟨rfl, Or.inr ⟨w9.heap.size, 3, _, (3, 4), rfl, Nat.le_refl _, heap_alloc_new w9 _, Or.inr (by decide), by decide, by decide, rfl, rfl⟩⟩
        have HOb := Lib.hid hOb
        clear hOb
        have kc := fun (w : World) (C : Array Value) (n c : Nat) => Lib.run_convert_bytes_const (P := Tryz.prog) w 23 5 C n c Tryz.underlying23 Tryz.underlying5
        go_wp2_with fail
        refine (rsok_any _ w9.heap.size (by simp) (txtB sPlain) _ [111, 107, 10] HOb.out).mono ?_
        rintro e w3 ⟨v, rfl, hR, hs3⟩
        have hb3 := (H9.out.2.1.alloc (.cells #[.int .u8 111, .int .u8 107, .int .u8 10] 5 (3, 4))).sm hs3 (fun h => h)
        have hlt : b0 + 1 < w9.heap.size := H9.out.2.1.lt
        have hs3 := (H9.out.1.alloc (.cells #[.int .u8 111, .int .u8 107, .int .u8 10] 5 (3, 4))).trans hs3 (fun _ _ h => h)
        rw [HE2.out] at hR
        obtain ⟨vF, vB, vP, rfl, hFF, hB, hP⟩ := hR
        obtain ⟨A1, c1', rfl, _⟩ := hFF.row
        obtain ⟨A2, c2', rfl, _⟩ := hB.row
        obtain ⟨A3, c3', rfl, _⟩ := hP.row
        have HD := Lib.hid (ans_done (by rw [HR0.out]; omega) hs3 hb3 hlt ⟨_, _, _, rfl, hFF, hB, hP⟩)
        have hl := hb3.lt
        have f0 := hb3.fz 0
        have f1 := hb3.fz 1
        have f2 := hb3.fz 2
        have f3 := hb3.fz 3
        have d0 := hb3.at 0 rfl
        have d1 := hb3.at 1 rfl
        have d2 := hb3.at 2 rfl
        have d3 := hb3.at 3 rfl
        clear hFF hB hP hb3 hs3 hlt
        go_wp2_with fail
        have c0 := HD.out.2.at 0 rfl
        have c1 := HD.out.2.at 1 rfl
        have c2 := HD.out.2.at 2 rfl
        have c3 := HD.out.2.at 3 rfl
        exact bodyPost_ret (v := .agg #[.int .i64 R.st, .slice A1 R.fs.length c1', .slice A2 R.body.length c2', .slice A3 R.parts.length c3']) (by simp [results, Tryz.results20, go_sem, c0, c1, c2, c3]) rfl (by have h := HD.out.1; rw [HR0.out] at h; exact h)
      · subst hk
        have hS9 := (HS.out.2.1.sm H9.out.1 (fun h => h))
        have c1 := hS9.at 1 (v := .slice AT T.length cT) rfl
        have hsl := hS9.lt
        obtain ⟨t1, t2, t3⟩ := entCells_at hx
        have hTb := own_rowC_at (own_row_sm HS.out.2.2.1 H9.out.1 (fun _ _ h => h))
        obtain ⟨bb, off, hAe, hbb, r0⟩ := hTb.at t1
        subst hAe
        obtain ⟨_, _, hA1, _, r1⟩ := hTb.at t2
        injection hA1 with hA1; injection hA1 with e1 e2; subst e1 e2
        obtain ⟨_, _, hA1, _, r2⟩ := hTb.at t3
        injection hA1 with hA1; injection hA1 with e1 e2; subst e1 e2
        rw [show off + (k * 3 + 1) = off + k * 3 + 1 by omega] at r1
        rw [show off + (k * 3 + 2) = off + k * 3 + 2 by omega] at r2
        have hkl : k < T.length := (List.getElem?_eq_some_iff.1 hx).1
        have k1 : (0 : Int) ≤ (k : Int) := by omega
        have k2 : (k : Int) < (T.length : Int) := by omega
        have k3 : (k : Int) ≤ 40 := by omega
        have n1 : ¬ (10 + (k : Int)) = 1 := by omega
        have n2 : ¬ (10 + (k : Int)) = 2 := by omega
        have n3 : ¬ (10 + (k : Int)) = 3 := by omega
        have hi : (10 + (k : Int)) - 10 = (k : Int) := by omega
        obtain ⟨s1, s2, s3⟩ := HS.out.2.2.2 x (List.mem_of_getElem? hx)
        have HE2 := Lib.hid (show entA x = R from by
          rw [← HE.out]
          unfold idA
          rw [if_neg n1, if_neg n2, if_neg n3, show ((10 + (k : Int)) - 10).toNat = k by omega, hx])
        obtain ⟨xp, xt, xd⟩ := x
        dsimp only at r0 r1 r2 s1 s2 s3 HE2
        clear hS9 t1 t2 t3 hTb hx q69 q79
        go_wp2_with (refine wpList_bytes_own rfl 9 23 5 _ rfl _ rfl Tryz.underlying9 Tryz.underlying23 Tryz.underlying5 w9.heap.size (by simp) (by unfold maxLen; omega) ?_; intro cB w6 hOB hsB hzB; refine RowKit.Hid.out ?_)
        refine Lib.hid ?_
        simp only [World.size_alloc] at hOB
        have hs6 := (H9.out.1.alloc (.cells #[.string xp, .string xt, .string xd] 56)).trans hsB (fun _ _ h => h)
        have hb6 := (H9.out.2.1.alloc (.cells #[.string xp, .string xt, .string xd] 56)).sm hsB (fun h => h)
        have he6 := (Bk.new w9 56 #[.string xp, .string xt, .string xd]).sm hsB (fun h => h)
        have hw6 : w9.heap.size ≤ w6.heap.size := Nat.le_trans (by simp) hsB.size
        have H6 := Lib.hid (And.intro hs6 (And.intro hb6 (And.intro he6 (And.intro hOB hw6))))
        clear hs6 hb6 he6 hOB hw6 hsB hzB r0 r1 r2 c1 hsl
        go_wp2_with fail
        refine (rsok_anyS w6 w9.heap.size H6.out.2.2.2.2 xt _ (txt xd) H6.out.2.2.2.1).mono ?_
        rintro e w7 ⟨vF, vB, rfl, hvF, hvB, hs7⟩
        obtain ⟨A1, c1', rfl, _⟩ := hvF.row
        obtain ⟨nb, hnb⟩ : ∃ nb, (txt xd).length = nb := ⟨_, rfl⟩
        obtain ⟨A2, c2', rfl, _⟩ := hvB.row
        rw [hnb]
        have hvB : ∃ l, txt xd = l ∧ ownsU w7 w9.heap.size 5 1 (.slice A2 nb c2') l.length (byteV l) := ⟨_, rfl, by rw [← hnb]; exact hvB⟩
        obtain ⟨ld, hld, hvB⟩ := hvB
        have he7 := H6.out.2.2.1.sm hs7 (fun h => h)
        have hb7 := H6.out.2.1.sm hs7 (fun h => h)
        have hs7w := H6.out.1.trans hs7 (fun _ _ h => h)
        have e71 := he7.at 1 (v := .string xt) rfl
        have e72 := he7.at 2 (v := .string xd) rfl
        have hel := he7.lt
        have hlt9 : b0 + 1 < w9.heap.size := H9.out.2.1.lt
        have H7 := Lib.hid (And.intro hs7w (And.intro hb7 (And.intro he7 (And.intro hvF (And.intro hvB (And.intro hlt9 (And.intro hnb hld)))))))
        clear hs7 hvF hvB he7 hb7 hs7w hnb hld
        obtain ⟨bp, hbp⟩ : ∃ bp, Lib.hasPrefix (txt xt) sStream = bp := ⟨_, rfl⟩
        have hpre : (bp = false ∧ (6 ≤ xt.size → ((xt.extract 0 6).toList == [115, 116, 114, 101, 97, 109]) = false)) ∨ (bp = true ∧ 6 ≤ xt.size ∧ ((xt.extract 0 6).toList == [115, 116, 114, 101, 97, 109]) = true) := by
          cases bp with
          | false => exact Or.inl ⟨rfl, fun h => (pre6 h).symm.trans hbp⟩
          | true => exact Or.inr ⟨rfl, pre6_le hbp, (pre6 (pre6_le hbp)).symm.trans hbp⟩
        rcases hpre with ⟨rfl, hno⟩ | ⟨rfl, h6, hp6⟩
        · have hbO := Bk.new w7 52 #[.int .i64 200, .slice A1 1 c1', .slice A2 nb c2', .slice none 0 0]
          have hR : RspV (w7.alloc (.cells #[.int .i64 200, .slice A1 1 c1', .slice A2 nb c2', .slice none 0 0] 52)) w9.heap.size (.agg #[.int .i64 200, .slice A1 1 c1', .slice A2 nb c2', .slice none 0 0]) R := by
            rw [← HE2.out]
            unfold entA
            dsimp only
            rw [if_neg (by rw [hbp]; decide), H7.out.2.2.2.2.2.2.2]
            exact ⟨_, _, _, rfl, H7.out.2.2.2.1.no ((Sm.refl No w7).alloc _), H7.out.2.2.2.2.1.no ((Sm.refl No w7).alloc _), ownsU.nil _ _ _ _⟩
          have hb3 := H7.out.2.1.alloc (.cells #[.int .i64 200, .slice A1 1 c1', .slice A2 nb c2', .slice none 0 0] 52)
          have hs3 := H7.out.1.alloc (.cells #[.int .i64 200, .slice A1 1 c1', .slice A2 nb c2', .slice none 0 0] 52)
          have hlt : b0 + 1 < w9.heap.size := H7.out.2.2.2.2.2.1
          by_cases h6 : 6 ≤ xt.size
          · have hp6 := hno h6
            have hp6n : ¬ (xt.extract 0 6).toList = [115, 116, 114, 101, 97, 109] := by simpa using hp6
            have i6 : (6 : Int) ≤ (xt.size : Int) := by omega
            clear hbp hno
            have HD := Lib.hid (ans_done (by rw [HR0.out]; omega) hs3 hb3 hlt hR)
            have hl := hb3.lt
            have f0 := hb3.fz 0
            have f1 := hb3.fz 1
            have f2 := hb3.fz 2
            have f3 := hb3.fz 3
            have d0 := hb3.at 0 rfl
            have d1 := hb3.at 1 rfl
            have d2 := hb3.at 2 rfl
            have d3 := hb3.at 3 rfl
            have o0 := hbO.at 0 (v := .int .i64 200) rfl
            have o1 := hbO.at 1 (v := .slice A1 1 c1') rfl
            have o2 := hbO.at 2 (v := .slice A2 nb c2') rfl
            have o3 := hbO.at 3 (v := .slice none 0 0) rfl
            have hol := hbO.lt
            clear hb3 hs3 hlt hR hbO
            go_wp2_with fail
            have c0 := HD.out.2.at 0 rfl
            have c1 := HD.out.2.at 1 rfl
            have c2 := HD.out.2.at 2 rfl
            have c3 := HD.out.2.at 3 rfl
            exact bodyPost_ret (v := .agg #[.int .i64 200, .slice A1 1 c1', .slice A2 nb c2', .slice none 0 0]) (by simp [results, Tryz.results20, go_sem, c0, c1, c2, c3]) rfl (by have h := HD.out.1; rw [HR0.out] at h; exact h)
          · have i6 : ¬ (6 : Int) ≤ (xt.size : Int) := by omega
            clear hbp hno
            have HD := Lib.hid (ans_done (by rw [HR0.out]; omega) hs3 hb3 hlt hR)
            have hl := hb3.lt
            have f0 := hb3.fz 0
            have f1 := hb3.fz 1
            have f2 := hb3.fz 2
            have f3 := hb3.fz 3
            have d0 := hb3.at 0 rfl
            have d1 := hb3.at 1 rfl
            have d2 := hb3.at 2 rfl
            have d3 := hb3.at 3 rfl
            have o0 := hbO.at 0 (v := .int .i64 200) rfl
            have o1 := hbO.at 1 (v := .slice A1 1 c1') rfl
            have o2 := hbO.at 2 (v := .slice A2 nb c2') rfl
            have o3 := hbO.at 3 (v := .slice none 0 0) rfl
            have hol := hbO.lt
            clear hb3 hs3 hlt hR hbO
            go_wp2_with fail
            have c0 := HD.out.2.at 0 rfl
            have c1 := HD.out.2.at 1 rfl
            have c2 := HD.out.2.at 2 rfl
            have c3 := HD.out.2.at 3 rfl
            exact bodyPost_ret (v := .agg #[.int .i64 200, .slice A1 1 c1', .slice A2 nb c2', .slice none 0 0]) (by simp [results, Tryz.results20, go_sem, c0, c1, c2, c3]) rfl (by have h := HD.out.1; rw [HR0.out] at h; exact h)
        · have hp6n : (xt.extract 0 6).toList = [115, 116, 114, 101, 97, 109] := by simpa using hp6
          have i6 : (6 : Int) ≤ (xt.size : Int) := by omega
          have HBP := Lib.hid hbp
          clear hbp
          go_wp2_with fail
          go_loopw [15] (fun i wr => EnT w7 w7.heap.size (.slice A1 1 c1') (.slice A2 nb c2') xd.size i wr) (fun i _ => xd.size + 32 - (intOf i).toNat)
          case atStart => exact ⟨0, .slice none 0 0, Or.inr rfl, rfl, ownsU.nil _ _ _ _, Bk.new w7 _ _, (Sm.refl No w7).alloc _⟩
          case round =>
            obtain ⟨j, vP, hj, rfl, hO, hbO, hsr⟩ := hrel
            obtain ⟨A3, c3', rfl, _⟩ := hO.row
            have he8 := H7.out.2.2.1.sm hsr (fun h => h)
            have e82 := he8.at 2 (v := .string xd) rfl
            have hel8 := he8.lt
            have hgl := hbO.lt
            have hjz : j ≤ 100000 := by omega
            clear e71 e72 he8
            by_cases hlt : 16 * (j + 1) < xd.size
            · have i0 : (0 : Int) ≤ 16 * ((j : Int) + 1) := by omega
              have i1 : (16 : Int) * ((j : Int) + 1) < (xd.size : Int) := by omega
              have i2 : (16 : Int) * ((j : Int) + 1) ≤ 1000000 := by omega
              have hmn : min (16 * (j + 1)) xd.size = 16 * (j + 1) := by omega
              have r3 := hbO.at 3 (v := .slice A3 j c3') rfl
              have HO := Lib.hid (And.intro hO (And.intro hbO (And.intro hsr (And.intro hmn hlt))))
              clear hO hbO hsr hmn
              go_wp2_with (refine wpList_pushU rfl _ _ 50 3 rfl Tryz.underlying50 _ 1 8 infoI8 rfl (by decide) (by decide) (w7.heap.size + 1) j _ _ rfl (HO.out.1.no ((Sm.refl No wr).alloc _)) ⟨wr.heap.size, 0, none⟩ 1 1 [.int .i64 (16 * ((j : Int) + 1))] rfl rfl (rowC_bk (Bk.new wr _ _)) (by simp [Value.oneCell']) (by omega) (by simp; omega) ?_; intro v' w5 hown5 hs5 _; obtain ⟨A5, c5, rfl, _⟩ := hown5.row; have hb5 := (HO.out.2.1.alloc (.cells #[.int .i64 (16 * ((j : Int) + 1))] 3)).sm hs5 (fun e => by have := (HO.out.1.lt _ e).1; omega); have d5 := hb5.at 3 rfl; have f5 := hb5.fz 3; have l5 := hb5.lt; have H5 := Lib.hid (And.intro hown5 hs5); refine RowKit.Hid.out ?_)
              refine Lib.hid ?_
              clear hown5 hs5 hb5 r3 e82
              go_wp2_with fail
              obtain ⟨j', vP', _, h2, h3, h4, h5⟩ := EnR.push (b := .int .i64 (16 * (((j + 1 : Nat) : Int) + 1))) rfl (show j < (xd.size + 15) / 16 by have := HO.out.2.2.2.2; omega) HO.out.1 HO.out.2.1 HO.out.2.2.1 (by rw [HO.out.2.2.2.1, show ((16 * (j + 1) : Nat) : Int) = 16 * ((j : Int) + 1) by omega]; exact H5.out.1) H5.out.2 rfl
              have hjj : j' = j + 1 := by injection h2 with _ h2; omega
              subst hjj
              exact ⟨⟨j + 1, vP', Or.inl HO.out.2.2.2.2, by rw [show (16 : Int) * ((j : Int) + 1) + 16 = 16 * (((j + 1 : Nat) : Int) + 1) by omega], h3, h4, h5⟩, by simp [intOf]; omega⟩
            · have i1 : ¬ (16 : Int) * ((j : Int) + 1) < (xd.size : Int) := by omega
              by_cases hn : xd.size = 0
              · have i2 : ¬ (0 : Int) < (xd.size : Int) := by omega
                have hj2 : j = (xd.size + 15) / 16 := by omega
                have hR : RspV wr w9.heap.size (.agg #[.int .i64 200, .slice A1 1 c1', .slice A2 nb c2', .slice A3 j c3']) R := by
                  rw [← HE2.out]
                  unfold entA
                  dsimp only
                  rw [if_pos HBP.out, H7.out.2.2.2.2.2.2.2]
                  refine ⟨_, _, _, rfl, H7.out.2.2.2.1.no hsr, H7.out.2.2.2.2.1.no hsr, ?_⟩
                  have h := hO.base (C := w9.heap.size) (fun b e => by have := (hO.lt b e).1; omega)
                  rw [parts_all _ _ hj2] at h
                  have e : (partsL xd.size).length = j := by rw [parts_len]; omega
                  show ownsU wr _ _ 1 _ (partsL xd.size).length _
                  rw [e]
                  exact h
                have hb3 := H7.out.2.1.sm hsr (fun h => h)
                have hs3 := H7.out.1.trans hsr (fun _ _ h => h)
                have hlt : b0 + 1 < w9.heap.size := H7.out.2.2.2.2.2.1
                clear hO hsr hj2
                have HD := Lib.hid (ans_done (by rw [HR0.out]; omega) hs3 hb3 hlt hR)
                have hl := hb3.lt
                have f0 := hb3.fz 0
                have f1 := hb3.fz 1
                have f2 := hb3.fz 2
                have f3 := hb3.fz 3
                have d0 := hb3.at 0 rfl
                have d1 := hb3.at 1 rfl
                have d2 := hb3.at 2 rfl
                have d3 := hb3.at 3 rfl
                have o0 := hbO.at 0 (v := .int .i64 200) rfl
                have o1 := hbO.at 1 (v := .slice A1 1 c1') rfl
                have o2 := hbO.at 2 (v := .slice A2 nb c2') rfl
                have o3 := hbO.at 3 (v := .slice A3 j c3') rfl
                have hol := hbO.lt
                clear hb3 hs3 hlt hR hbO
                go_wp2_with fail
                have c0 := HD.out.2.at 0 rfl
                have c1 := HD.out.2.at 1 rfl
                have c2 := HD.out.2.at 2 rfl
                have c3 := HD.out.2.at 3 rfl
                exact bodyPost_ret (v := .agg #[.int .i64 200, .slice A1 1 c1', .slice A2 nb c2', .slice A3 j c3']) (by simp [results, Tryz.results20, go_sem, c0, c1, c2, c3]) rfl (by have h := HD.out.1; rw [HR0.out] at h; exact h)
              · have i2 : (0 : Int) < (xd.size : Int) := by omega
                have hj2 : j < (xd.size + 15) / 16 := by omega
                have hj3 : j + 1 = (xd.size + 15) / 16 := by omega
                have hmn : min (16 * (j + 1)) xd.size = xd.size := by omega
                have r3 := hbO.at 3 (v := .slice A3 j c3') rfl
                have HO := Lib.hid (And.intro hO (And.intro hbO (And.intro hsr (And.intro hmn (And.intro hj2 hj3)))))
                have hbr := H7.out.2.1.sm hsr (fun h => h)
                have HB := Lib.hid hbr
                have hne : b0 + 1 < w7.heap.size := H7.out.2.1.lt
                clear hO hbO hsr hmn hj2 hj3 hbr
                go_wp2_with (refine wpList_pushU rfl _ _ 50 3 rfl Tryz.underlying50 _ 1 8 infoI8 rfl (by decide) (by decide) (w7.heap.size + 1) j _ _ rfl (HO.out.1.no ((Sm.refl No wr).alloc _)) ⟨wr.heap.size, 0, none⟩ 1 1 [.int .i64 (xd.size : Int)] rfl rfl (rowC_bk (Bk.new wr _ _)) (by simp [Value.oneCell']) (by omega) (by simp; omega) ?_; intro v' w5 hown5 hs5 _; obtain ⟨A5, c5, rfl, _⟩ := hown5.row; have hb5 := (HO.out.2.1.alloc (.cells #[.int .i64 (xd.size : Int)] 3)).sm hs5 (fun e => by have := (HO.out.1.lt _ e).1; omega); have o0 := hb5.at 0 (v := .int .i64 200) rfl; have o1 := hb5.at 1 (v := .slice A1 1 c1') rfl; have o2 := hb5.at 2 (v := .slice A2 nb c2') rfl; have d5 := hb5.at 3 rfl; have f5 := hb5.fz 3; have l5 := hb5.lt; have H5 := Lib.hid (And.intro hown5 hs5); have hbr5 := (HB.out.alloc (.cells #[.int .i64 (xd.size : Int)] 3)).sm hs5 (fun e => by have := (HO.out.1.lt _ e).1; omega); have d0 := hbr5.at 0 rfl; have d1 := hbr5.at 1 rfl; have d2 := hbr5.at 2 rfl; have d3 := hbr5.at 3 rfl; have f0 := hbr5.fz 0; have f1 := hbr5.fz 1; have f2 := hbr5.fz 2; have f3 := hbr5.fz 3; have HB5 := Lib.hid hbr5; have hl5 := hbr5.lt; refine RowKit.Hid.out ?_)
                refine Lib.hid ?_
                clear hown5 hs5 hb5 r3 e82 hbr5
                have n1 : ¬ b0 + 1 = w7.heap.size := by omega
                have n2 : ¬ w7.heap.size = b0 + 1 := by omega
                go_wp2_with fail
                have h6 : Sm (fun b => b = w7.heap.size) w5 (w5.setCell ⟨w7.heap.size, 3, none⟩ (.slice A5 (j + 1) c5)) := (Sm.refl _ w5).set1 3 _
                have hOS := H5.out.1.sm h6 (fun b e1 e2 => by have := (H5.out.1.lt b e1).1; omega)
                have hsS : Sm No w7 (w5.setCell ⟨w7.heap.size, 3, none⟩ (.slice A5 (j + 1) c5)) := ((HO.out.2.2.1.alloc (.cells #[.int .i64 (xd.size : Int)] 3)).fresh H5.out.2 (fun b e => by have := (HO.out.1.lt b e).1; omega)).fresh h6 (fun b e => by omega)
                have hb3 := HB5.out.sm h6 (fun e => by omega)
                have hR : RspV (w5.setCell ⟨w7.heap.size, 3, none⟩ (.slice A5 (j + 1) c5)) w9.heap.size (.agg #[.int .i64 200, .slice A1 1 c1', .slice A2 nb c2', .slice A5 (j + 1) c5]) R := by
                  rw [← HE2.out]
                  unfold entA
                  dsimp only
                  rw [if_pos HBP.out, H7.out.2.2.2.2.2.2.2]
                  refine ⟨_, _, _, rfl, H7.out.2.2.2.1.no hsS, H7.out.2.2.2.2.1.no hsS, ?_⟩
                  have h := hOS.base (C := w9.heap.size) (fun b e => by have := (hOS.lt b e).1; omega)
                  have e2 : intsV ((partsL xd.size).take j) ++ [.int .i64 (xd.size : Int)] = intsV (partsL xd.size) := by
                    have e3 := parts_take _ _ HO.out.2.2.2.2.1
                    rw [HO.out.2.2.2.1, parts_all _ _ HO.out.2.2.2.2.2] at e3
                    rw [← intsV_snoc, ← e3]
                  rw [e2] at h
                  have e : (partsL xd.size).length = j + 1 := by rw [parts_len]; exact HO.out.2.2.2.2.2.symm
                  show ownsU _ _ _ 1 _ (partsL xd.size).length _
                  rw [e]
                  exact h
                have HD := Lib.hid (ans_done (by rw [HR0.out]; omega) (H7.out.1.trans hsS (fun _ _ h => h)) hb3 H7.out.2.2.2.2.2.1 hR)
                have c0 := HD.out.2.at 0 rfl
                have c1 := HD.out.2.at 1 rfl
                have c2 := HD.out.2.at 2 rfl
                have c3 := HD.out.2.at 3 rfl
                exact bodyPost_ret (v := .agg #[.int .i64 200, .slice A1 1 c1', .slice A2 nb c2', .slice A5 (j + 1) c5]) (by simp [results, Tryz.results20, go_sem, c0, c1, c2, c3]) rfl (by have h := HD.out.1; rw [HR0.out] at h; exact h)
set_option maxRecDepth 100000 in
set_option maxHeartbeats 64000000 in
theorem rserve_no (w : World) (hg : G1 w) (O : Nat → Prop) (s : Nat) (T : List Ent) (h : IsSiteX w O s T) (hc : siteC T = 0) (hsm : SmallE T) (q : Rq) (A : Option Addr) (c : Nat) (B : Option Addr) (d : Nat) (hq : RqOk w q A c B d) (hno : (q.form = 4 ∨ q.form = 3) ∨ txt q.m ∉ m4) :
    Calls Tryz.prog 20 #[.pointer (some ⟨s, 0, none⟩), reqV q A c B d] w (AnsPost w w.heap.size (serveL T q)) := by
  have hT := table_40 hc
  obtain ⟨Q, AT, cT, v0, hR, hE, hS⟩ := h.parts
  obtain ⟨m, form, host, path, query, minor, fs, body, close, expect⟩ := q
  have HQ := Lib.hid hq
  dsimp only at hno
  have HS := Lib.hid (And.intro hR (And.intro hS (And.intro hE hsm)))
  have HG := Lib.hid hg
  clear hR hS hE hsm hg hq h
  unfold reqV
  dsimp only at HQ ⊢
  obtain ⟨R, hRR⟩ : ∃ R, serveL T ⟨m, form, host, path, query, minor, fs, body, close, expect⟩ = R := ⟨_, rfl⟩
  rw [hRR]
  have HRR := Lib.hid hRR
  clear hRR
  obtain ⟨b0, hb0⟩ : ∃ b0, w.heap.size = b0 := ⟨_, rfl⟩
  have HR0 := Lib.hid hb0
  rw [hb0]
  clear hb0
  go_enter Tryz.func20, Tryz.ntmps20
  by_cases hf : form = 4
  · subst hf
    go_wp2_with fail
    rw [HR0.out]
    obtain ⟨w1, hw1⟩ : ∃ w1, (w.alloc (.cells #[.string m, .int .i64 4, .string host, .string path, .string query, .int .i64 minor, .slice A fs.length c, .slice B body.length d, .bool close, .bool expect] 29)).alloc (.cells #[.int .i64 0, .slice none 0 0, .slice none 0 0, .slice none 0 0] 52) = w1 := ⟨_, rfl⟩
    rw [hw1]
    have hs1 : Sm No w w1 := by rw [← hw1]; exact ((Sm.refl No w).alloc _).alloc _
    have hbq : Bk w1 b0 29 #[.string m, .int .i64 4, .string host, .string path, .string query, .int .i64 minor, .slice A fs.length c, .slice B body.length d, .bool close, .bool expect] := by rw [← hw1, ← HR0.out]; exact (Bk.new w _ _).alloc _
    have hbr : Bk w1 (b0 + 1) 52 #[.int .i64 0, .slice none 0 0, .slice none 0 0, .slice none 0 0] := by rw [← hw1]; exact Bk.newAt _ _ _ (by rw [← HR0.out]; simp)
    have hz1 : b0 + 1 + 1 = w1.heap.size := by rw [← hw1, ← HR0.out]; simp
    have H1 := Lib.hid (And.intro hs1 (And.intro hbq hbr))
    clear hs1 hbq hbr hw1
    rw [hz1]
    refine (rCanned_any (w1.alloc (.cells #[.string ⟨#[65, 108, 108, 111, 119]⟩, .string ⟨#[71, 69, 84, 44, 32, 72, 69, 65, 68, 44, 32, 79, 80, 84, 73, 79, 78, 83, 44, 32, 80, 79, 83, 84]⟩] 65)) (HG.out.no (H1.out.1.alloc _)) 204 (by decide) (by decide) (some ⟨w1.heap.size, 0, none⟩) 1 [(⟨#[65, 108, 108, 111, 119]⟩, ⟨#[71, 69, 84, 44, 32, 72, 69, 65, 68, 44, 32, 79, 80, 84, 73, 79, 78, 83, 44, 32, 80, 79, 83, 84]⟩)] (fRow_one (Bk.new w1 _ _)) (fun e => by cases e) (by simp)).mono ?_
    rintro e w3 ⟨v, rfl, hR, hs3⟩
    have hb3 := ((H1.out.2.2).alloc (.cells #[.string ⟨#[65, 108, 108, 111, 119]⟩, .string ⟨#[71, 69, 84, 44, 32, 72, 69, 65, 68, 44, 32, 79, 80, 84, 73, 79, 78, 83, 44, 32, 80, 79, 83, 84]⟩] 65)).sm hs3 (fun h => h)
    have hs3 := ((H1.out.1).alloc (.cells #[.string ⟨#[65, 108, 108, 111, 119]⟩, .string ⟨#[71, 69, 84, 44, 32, 72, 69, 65, 68, 44, 32, 79, 80, 84, 73, 79, 78, 83, 44, 32, 80, 79, 83, 84]⟩] 65)).trans hs3 (fun _ _ h => h)
    have hlt : b0 + 1 < (w1.alloc (.cells #[.string ⟨#[65, 108, 108, 111, 119]⟩, .string ⟨#[71, 69, 84, 44, 32, 72, 69, 65, 68, 44, 32, 79, 80, 84, 73, 79, 78, 83, 44, 32, 80, 79, 83, 84]⟩] 65)).heap.size := Nat.lt_of_lt_of_le (H1.out.2.2).lt (by simp)
    rw [(show cannedL 204 [_] = R from allowF_m4 ▸ serve_4 HRR.out rfl)] at hR
    obtain ⟨vF, vB, vP, rfl, hFF, hB, hP⟩ := hR
    obtain ⟨A1, c1', rfl, _⟩ := hFF.row
    obtain ⟨A2, c2', rfl, _⟩ := hB.row
    obtain ⟨A3, c3', rfl, _⟩ := hP.row
    have HD := Lib.hid (ans_done (by rw [HR0.out]; omega) hs3 hb3 hlt ⟨_, _, _, rfl, hFF, hB, hP⟩)
    have hl := hb3.lt
    have f0 := hb3.fz 0
    have f1 := hb3.fz 1
    have f2 := hb3.fz 2
    have f3 := hb3.fz 3
    have d0 := hb3.at 0 rfl
    have d1 := hb3.at 1 rfl
    have d2 := hb3.at 2 rfl
    have d3 := hb3.at 3 rfl
    clear hFF hB hP hb3 hs3 hlt
    go_wp2_with fail
    have c0 := HD.out.2.at 0 rfl
    have c1 := HD.out.2.at 1 rfl
    have c2 := HD.out.2.at 2 rfl
    have c3 := HD.out.2.at 3 rfl
    exact bodyPost_ret (v := .agg #[.int .i64 R.st, .slice A1 R.fs.length c1', .slice A2 R.body.length c2', .slice A3 R.parts.length c3']) (by simp [results, Tryz.results20, go_sem, c0, c1, c2, c3]) rfl (by have h := HD.out.1; rw [HR0.out] at h; exact h)
  by_cases hf3 : form = 3
  · subst hf3
    go_wp2_with fail
    rw [HR0.out]
    obtain ⟨w1, hw1⟩ : ∃ w1, (w.alloc (.cells #[.string m, .int .i64 3, .string host, .string path, .string query, .int .i64 minor, .slice A fs.length c, .slice B body.length d, .bool close, .bool expect] 29)).alloc (.cells #[.int .i64 0, .slice none 0 0, .slice none 0 0, .slice none 0 0] 52) = w1 := ⟨_, rfl⟩
    rw [hw1]
    have hs1 : Sm No w w1 := by rw [← hw1]; exact ((Sm.refl No w).alloc _).alloc _
    have hbq : Bk w1 b0 29 #[.string m, .int .i64 3, .string host, .string path, .string query, .int .i64 minor, .slice A fs.length c, .slice B body.length d, .bool close, .bool expect] := by rw [← hw1, ← HR0.out]; exact (Bk.new w _ _).alloc _
    have hbr : Bk w1 (b0 + 1) 52 #[.int .i64 0, .slice none 0 0, .slice none 0 0, .slice none 0 0] := by rw [← hw1]; exact Bk.newAt _ _ _ (by rw [← HR0.out]; simp)
    have hz1 : b0 + 1 + 1 = w1.heap.size := by rw [← hw1, ← HR0.out]; simp
    have H1 := Lib.hid (And.intro hs1 (And.intro hbq hbr))
    clear hs1 hbq hbr hw1
    refine (rCanned_any w1 (HG.out.no (H1.out.1)) 501 (by decide) (by decide) none 0 [] (fun k hk => by cases hk) (fun _ => ⟨rfl, rfl⟩) (by decide)).mono ?_
    rintro e w3 ⟨v, rfl, hR, hs3⟩
    have hb3 := (H1.out.2.2).sm hs3 (fun h => h)
    have hs3 := (H1.out.1).trans hs3 (fun _ _ h => h)
    have hlt : b0 + 1 < w1.heap.size := (H1.out.2.2).lt
    rw [show cannedL 501 [] = R from (serve_501 HRR.out (show ¬ (3 : Int) = 4 by decide) (Or.inl rfl))] at hR
    obtain ⟨vF, vB, vP, rfl, hFF, hB, hP⟩ := hR
    obtain ⟨A1, c1', rfl, _⟩ := hFF.row
    obtain ⟨A2, c2', rfl, _⟩ := hB.row
    obtain ⟨A3, c3', rfl, _⟩ := hP.row
    have HD := Lib.hid (ans_done (by rw [HR0.out]; omega) hs3 hb3 hlt ⟨_, _, _, rfl, hFF, hB, hP⟩)
    have hl := hb3.lt
    have f0 := hb3.fz 0
    have f1 := hb3.fz 1
    have f2 := hb3.fz 2
    have f3 := hb3.fz 3
    have d0 := hb3.at 0 rfl
    have d1 := hb3.at 1 rfl
    have d2 := hb3.at 2 rfl
    have d3 := hb3.at 3 rfl
    clear hFF hB hP hb3 hs3 hlt
    go_wp2_with fail
    have c0 := HD.out.2.at 0 rfl
    have c1 := HD.out.2.at 1 rfl
    have c2 := HD.out.2.at 2 rfl
    have c3 := HD.out.2.at 3 rfl
    exact bodyPost_ret (v := .agg #[.int .i64 R.st, .slice A1 R.fs.length c1', .slice A2 R.body.length c2', .slice A3 R.parts.length c3']) (by simp [results, Tryz.results20, go_sem, c0, c1, c2, c3]) rfl (by have h := HD.out.1; rw [HR0.out] at h; exact h)
  by_cases hm4 : txt m ∉ m4
  · have g1 := (ne_list (m := m) (l := [71, 69, 84]) (fun e => hm4 (by rw [e]; decide))).2
    have g2 := (ne_list (m := m) (l := [72, 69, 65, 68]) (fun e => hm4 (by rw [e]; decide))).2
    have g3 := (ne_list (m := m) (l := [80, 79, 83, 84]) (fun e => hm4 (by rw [e]; decide))).2
    have g4 := (ne_list (m := m) (l := [79, 80, 84, 73, 79, 78, 83]) (fun e => hm4 (by rw [e]; decide))).2
    have g0 : (form == 3) = false := by rw [beq_eq_false_iff_ne]; exact hf3
    have HM := Lib.hid hm4
    clear hm4
    go_wp2_with fail
    rw [HR0.out]
    obtain ⟨w1, hw1⟩ : ∃ w1, (w.alloc (.cells #[.string m, .int .i64 form, .string host, .string path, .string query, .int .i64 minor, .slice A fs.length c, .slice B body.length d, .bool close, .bool expect] 29)).alloc (.cells #[.int .i64 0, .slice none 0 0, .slice none 0 0, .slice none 0 0] 52) = w1 := ⟨_, rfl⟩
    rw [hw1]
    have hs1 : Sm No w w1 := by rw [← hw1]; exact ((Sm.refl No w).alloc _).alloc _
    have hbq : Bk w1 b0 29 #[.string m, .int .i64 form, .string host, .string path, .string query, .int .i64 minor, .slice A fs.length c, .slice B body.length d, .bool close, .bool expect] := by rw [← hw1, ← HR0.out]; exact (Bk.new w _ _).alloc _
    have hbr : Bk w1 (b0 + 1) 52 #[.int .i64 0, .slice none 0 0, .slice none 0 0, .slice none 0 0] := by rw [← hw1]; exact Bk.newAt _ _ _ (by rw [← HR0.out]; simp)
    have hz1 : b0 + 1 + 1 = w1.heap.size := by rw [← hw1, ← HR0.out]; simp
    have H1 := Lib.hid (And.intro hs1 (And.intro hbq hbr))
    clear hs1 hbq hbr hw1
    refine (rCanned_any w1 (HG.out.no (H1.out.1)) 501 (by decide) (by decide) none 0 [] (fun k hk => by cases hk) (fun _ => ⟨rfl, rfl⟩) (by decide)).mono ?_
    rintro e w3 ⟨v, rfl, hR, hs3⟩
    have hb3 := (H1.out.2.2).sm hs3 (fun h => h)
    have hs3 := (H1.out.1).trans hs3 (fun _ _ h => h)
    have hlt : b0 + 1 < w1.heap.size := (H1.out.2.2).lt
    rw [show cannedL 501 [] = R from (serve_501 HRR.out hf (Or.inr HM.out))] at hR
    obtain ⟨vF, vB, vP, rfl, hFF, hB, hP⟩ := hR
    obtain ⟨A1, c1', rfl, _⟩ := hFF.row
    obtain ⟨A2, c2', rfl, _⟩ := hB.row
    obtain ⟨A3, c3', rfl, _⟩ := hP.row
    have HD := Lib.hid (ans_done (by rw [HR0.out]; omega) hs3 hb3 hlt ⟨_, _, _, rfl, hFF, hB, hP⟩)
    have hl := hb3.lt
    have f0 := hb3.fz 0
    have f1 := hb3.fz 1
    have f2 := hb3.fz 2
    have f3 := hb3.fz 3
    have d0 := hb3.at 0 rfl
    have d1 := hb3.at 1 rfl
    have d2 := hb3.at 2 rfl
    have d3 := hb3.at 3 rfl
    clear hFF hB hP hb3 hs3 hlt
    go_wp2_with fail
    have c0 := HD.out.2.at 0 rfl
    have c1 := HD.out.2.at 1 rfl
    have c2 := HD.out.2.at 2 rfl
    have c3 := HD.out.2.at 3 rfl
    exact bodyPost_ret (v := .agg #[.int .i64 R.st, .slice A1 R.fs.length c1', .slice A2 R.body.length c2', .slice A3 R.parts.length c3']) (by simp [results, Tryz.results20, go_sem, c0, c1, c2, c3]) rfl (by have h := HD.out.1; rw [HR0.out] at h; exact h)
  · have hx : ¬ (form = 4 ∨ form = 3) := fun h => by
      rcases h with h | h
      · exact hf h
      · exact hf3 h
    exact absurd (hno.resolve_left hx) hm4
theorem rserve_any (w : World) (hg : G1 w) (O : Nat → Prop) (s : Nat) (T : List Ent) (h : IsSiteX w O s T) (hc : siteC T = 0) (hsm : SmallE T) (q : Rq) (A : Option Addr) (c : Nat) (B : Option Addr) (d : Nat) (hq : RqOk w q A c B d) :
    Calls Tryz.prog 20 #[.pointer (some ⟨s, 0, none⟩), reqV q A c B d] w (AnsPost w w.heap.size (serveL T q)) := by
  by_cases hno : (q.form = 4 ∨ q.form = 3) ∨ txt q.m ∉ m4
  · exact rserve_no w hg O s T h hc hsm q A c B d hq hno
  · have hf : ¬ q.form = 4 := fun e => hno (Or.inl (Or.inl e))
    have hf3 : ¬ q.form = 3 := fun e => hno (Or.inl (Or.inr e))
    have hm4 : txt q.m ∈ m4 := Decidable.not_not.1 (fun e => hno (Or.inr e))
    have hgs : ((q.m.toList == [71, 69, 84]) = true ∨ ((q.m.toList == [71, 69, 84]) = false ∧ (q.m.toList == [72, 69, 65, 68]) = true)) ∨ (((q.m.toList == [71, 69, 84]) = false ∧ (q.m.toList == [72, 69, 65, 68]) = false ∧ (q.m.toList == [80, 79, 83, 84]) = true) ∨ ((q.m.toList == [71, 69, 84]) = false ∧ (q.m.toList == [72, 69, 65, 68]) = false ∧ (q.m.toList == [80, 79, 83, 84]) = false ∧ (q.m.toList == [79, 80, 84, 73, 79, 78, 83]) = true)) := by
      rw [ByteArray.toList_eq]
      rcases m4_cases hm4 with hm | hm | hm | hm <;> (unfold txt at hm; rw [hm]; decide)
    rcases hgs with (g1 | ⟨g1, g2⟩) | (⟨g1, g2, g3⟩ | ⟨g1, g2, g3, g4⟩)
    · exact rserve_0 w hg O s T h hc hsm q A c B d hq hf hf3 hm4 g1
    · exact rserve_1 w hg O s T h hc hsm q A c B d hq hf hf3 hm4 g1 g2
    · exact rserve_2 w hg O s T h hc hsm q A c B d hq hf hf3 hm4 g1 g2 g3
    · exact rserve_3 w hg O s T h hc hsm q A c B d hq hf hf3 hm4 g1 g2 g3 g4
end Go.Proofs.YtiglfbimijnpcaaGreatDoor

