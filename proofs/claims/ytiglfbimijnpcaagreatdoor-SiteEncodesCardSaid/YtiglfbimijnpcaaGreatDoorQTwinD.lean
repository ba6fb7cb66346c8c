/- The document's Router: Add. -/
import Derived.Test.YtiglfbimijnpcaaGreatDoorQT
namespace Go.Proofs.YtiglfbimijnpcaaGreatDoor
open Go.RowKit Go.Proofs
variable {tt : TypeId} {tl : List Value}

def CkRel (w : World) (L : List Lt) (p : Txt) (ms : List Txt) (i : Value) (wr : World) : Prop :=
  ∃ k : Nat, k ≤ L.length ∧ i = .int .i64 k ∧ Sm No w wr ∧ ∀ y ∈ L.take k, y.pat = p → clash ms y.ms = false
def CjRel (w : World) (ms ym : List Txt) (i : Value) (wr : World) : Prop :=
  ∃ j : Nat, j ≤ ms.length ∧ i = .int .i64 j ∧ Sm No w wr ∧ ∀ t ∈ ms.take j, ym.contains t = false
theorem Sm.fresh2 {S : Nat → Prop} {w w1 w2 : World} (h : Sm No w w1) (k : Sm S w1 w2) (hS : ∀ b, S b → w.heap.size ≤ b) : Sm No w w2 :=
  ((h.any _).trans k (fun _ _ e => e)).mono (fun b hb e => by have := hS b e; omega)
theorem any_tok {l : List Txt} {b : Bool} (h : l.any (fun m => !tokL m) = b) : l.all tokL = !b := by
  rw [← h, List.any_eq_not_all_not]; simp
theorem clash_has {ms xs : List Txt} (h1 : ms ≠ []) (h2 : xs ≠ []) (h : ∀ t ∈ ms, xs.contains t = false) : clash ms xs = false := by
  unfold clash
  have e1 : ms.isEmpty = false := by simpa using h1
  have e2 : xs.isEmpty = false := by simpa using h2
  have e3 : ms.any (fun m => xs.contains m) = false := by
    rw [List.any_eq_false]
    intro t ht
    rw [h t ht]; simp
  rw [e1, e2, e3]; rfl
theorem clash_hit {ms xs : List Txt} {t : Txt} (h : t ∈ ms) (h2 : xs.contains t = true) : clash ms xs = true := by
  unfold clash
  have e3 : ms.any (fun m => xs.contains m) = true := List.any_eq_true.2 ⟨t, h, h2⟩
  rw [e3]; simp
theorem twin_s4 {w wr w4 : World} (h : Sm No w wr) (hs : Sm (fun b => (Value.slice (some ⟨wr.heap.size, 0, none⟩) 0 0).ownBlock = some b) ((wr.alloc (.cells #[] 9)).drew) w4) : Sm No w w4 :=
  ((h.alloc _).drew).fresh2 hs (fun b e => by
    have := h.size
    simp [Value.ownBlock] at e
    omega)
theorem addC_sel {L : List Lt} {s : Txt} {id : Int} {ms : List Txt} : addC L ⟨s, id, ms⟩ = if (patL s && decide (0 ≤ id) && ms.all tokL) = true then (if 64 ≤ L.length then 3 else if (L.filter (fun x => x.pat == s)).any (fun y => clash ms y.ms) = true then 11 else 0) else 1 := by
  unfold addC
  rw [sel_pat]

set_option maxRecDepth 100000 in
set_option maxHeartbeats 4000000 in
theorem radd_any (w : World) (O : Nat → Prop) (r : Nat) (L : List Lt) (s : ByteArray) (id : Int) (A : Option Addr) (c : Nat) (ms : List Txt) (h : IsTwin tt tl w O r L) (hL : L.length ≤ 64)
    (hLm : ∀ x ∈ L, x.ms.length ≤ 4000) (hs : s.size ≤ 140737488351232) (hA : RowC w A (ms.map strV)) (hn : A = none → c = 0) (hml : ms.length ≤ 1000000) (hms : ∀ t ∈ ms, t.length ≤ 1000000) :
    Calls Tryz.prog 30 #[.pointer (some ⟨r, 0, none⟩), .string s, .int .i64 id, .slice A ms.length c] w (rAddPost tt tl w O r L ⟨txt s, id, ms⟩) := by
  obtain ⟨x, hx⟩ : ∃ x : Lt, (⟨txt s, id, ms⟩ : Lt) = x := ⟨_, rfl⟩
  have hcode := addC_sel (L := L) (s := txt s) (id := id) (ms := ms)
  rw [hx] at hcode ⊢
  obtain ⟨v, l, hT⟩ := h
  obtain ⟨AL, cL, rfl⟩ := hT.form
  obtain ⟨pb, hpb⟩ : ∃ b, patL (txt s) = b := ⟨_, rfl⟩
  have hpat := pattern_any s hs w
  rw [hpb] at hcode hpat
  have HPt := Lib.hid hpat
  have HC := Lib.hid hcode
  have HT := Lib.hid (And.intro hT (And.intro hA (And.intro hms (And.intro hLm hx))))
  have htw : IsTwin tt tl w O r L := ⟨_, _, hT⟩
  have HI := Lib.hid htw
  clear hT hA hms hcode hpat hpb hx htw
  cases pb with
  | false =>
    have hc : addC L x = 1 := by rw [HC.out]; rfl
    have HE := Lib.hid hc
    clear hc
    go_enter Tryz.func30, Tryz.ntmps30
    go_wp2_with fail
    refine HPt.out.mono ?_
    rintro e w1 ⟨rfl, hs1⟩
    have H1 := Lib.hid (rAddPost.not HE.out (by decide) HI.out hs1)
    clear hs1
    go_wp2_with fail
    go_ret
    exact H1.out
  | true =>
    by_cases hid : 0 ≤ id
    · go_enter Tryz.func30, Tryz.ntmps30
      go_wp2_with fail
      refine HPt.out.mono ?_
      rintro e w1 ⟨rfl, hs1⟩
      have H1 := Lib.hid hs1
      clear hs1
      go_wp2_with fail
      go_loopw [9] (fun i wr => IdxT w ms (fun m => !tokL m) i wr) (fun i _ => ms.length - (intOf i).toNat)
      case atStart => exact ⟨0, Nat.zero_le _, rfl, H1.out, fun x h => by simp at h⟩
      case round =>
        obtain ⟨k, hk, rfl, hsm, hno⟩ := hrel
        have HS := Lib.hid (And.intro hsm hno)
        clear hsm hno
        by_cases hlt : k < ms.length
        · obtain ⟨bb, off, hAe, hbb, r0⟩ := (HT.out.2.1.no HS.out.1).at (strV_at hlt)
          subst hAe
          have s0 := HT.out.2.2.1 _ (List.getElem_mem hlt)
          obtain ⟨t, ht⟩ : ∃ t : ByteArray, (⟨ms[k].toArray⟩ : ByteArray) = t := ⟨_, rfl⟩
          have hts : txt t = ms[k] := by rw [← ht, txt_mk]
          rw [ht] at r0
          have htz : t.size ≤ 1000000 := by rw [← txt_len, hts]; exact s0
          obtain ⟨b, hb⟩ : ∃ b, tokL (txt t) = b := ⟨_, rfl⟩
          have hno2 : tokL (txt t) = true → ∀ x ∈ ms.take (k + 1), (fun m => !tokL m) x = false := fun e => take_step HS.out.2 hlt (by rw [← hts]; simp [e])
          have hbad : tokL (txt t) = false → addC L x = 1 := fun e => by
            rw [HC.out, if_neg]
            simp only [Bool.and_eq_true, not_and, Bool.not_eq_true]
            intro _
            rw [Bool.eq_false_iff]
            intro hall
            have := List.all_eq_true.1 hall _ (List.getElem_mem hlt)
            rw [← hts, e] at this
            cases this
          have k1 : (0 : Int) ≤ (k : Int) := by omega
          have k2 : (k : Int) < (ms.length : Int) := by omega
          have HB := Lib.hid hb
          have HX := Lib.hid (And.intro hno2 hbad)
          clear ht hts s0 hno2 hbad hb
          cases b with
          | true =>
            have HN := Lib.hid (HX.out.1 HB.out)
            go_wp2_with fail
            refine (rIsToken_say HB htz wr).mono ?_
            rintro e w2 ⟨rfl, rfl⟩
            go_wp2_with fail
            exact ⟨⟨k + 1, by omega, by go_num, HS.out.1, HN.out⟩, by simp [intOf]; omega⟩
          | false =>
            have HE := Lib.hid (rAddPost.not (HX.out.2 HB.out) (by decide) HI.out HS.out.1)
            go_wp2_with fail
            refine (rIsToken_say HB htz wr).mono ?_
            rintro e w2 ⟨rfl, rfl⟩
            go_wp2_with fail
            go_ret
            exact HE.out
        · have hall : ms.all tokL = true := by
            have := any_take HS.out.2 hlt
            exact any_tok this
          have hc2 := HC.out
          rw [hall] at hc2
          simp only [hid, decide_true, Bool.and_self, if_true] at hc2
          have c0 := (HT.out.1.no HS.out.1).1.at 0 (v := .slice AL L.length cL) rfl
          have HC2 := Lib.hid hc2
          clear hall hc2
          by_cases hfull : 64 ≤ L.length
          · have hc : addC L x = 3 := by rw [HC2.out, if_pos hfull]
            have HE := Lib.hid (rAddPost.not hc (by decide) HI.out HS.out.1)
            clear hc
            go_wp2_with fail
            go_ret
            exact HE.out
          · have hc3 := HC2.out
            rw [if_neg hfull] at hc3
            have HC3 := Lib.hid hc3
            clear hc3
            go_wp2_with fail
            obtain ⟨wo, hwo⟩ : ∃ wo : World, wo = wr := ⟨_, rfl⟩
            rw [← hwo] at HS
            have HW := Lib.hid hwo
            go_loopw [10] (fun i wr => CkRel w L (txt s) ms i wr) (fun i _ => L.length - (intOf i).toNat)
            case atStart => exact ⟨0, Nat.zero_le _, rfl, HW.out ▸ HS.out.1, fun y h => by simp at h⟩
            case round =>
              obtain ⟨k, hk, rfl, hsm, hno⟩ := hrel
              have HS2 := Lib.hid (And.intro hsm hno)
              have c0 := (HT.out.1.no hsm).1.at 0 (v := .slice AL L.length cL) rfl
              clear hsm hno
              by_cases hlt : k < L.length
              · obtain ⟨g, A2, c2, hAe, r0, r1, r2, hR2, hn2⟩ := (HT.out.1.no HS2.out.1).get hlt
                subst hAe
                have hmem := List.getElem_mem hlt
                have hstep : (L[k].pat = txt s → clash ms L[k].ms = false) → ∀ y ∈ L.take (k + 1), y.pat = txt s → clash ms y.ms = false := fun h y hy => by
                  rw [List.take_succ_eq_append_getElem hlt, List.mem_append, List.mem_singleton] at hy
                  rcases hy with hy | rfl
                  · exact HS2.out.2 y hy
                  · exact h
                have hbad : L[k].pat = txt s → clash ms L[k].ms = true → addC L x = 11 := fun hp hcl => by
                  rw [HC3.out, if_pos]
                  exact List.any_eq_true.2 ⟨L[k], List.mem_filter.2 ⟨hmem, by simpa using hp⟩, hcl⟩
                have hget := fun (W : World) (hW : Sm No w W) => (HT.out.1.no hW).get hlt
                have hyl := HT.out.2.2.2.1 _ hmem
                obtain ⟨y, hy⟩ : ∃ y, L[k] = y := ⟨_, rfl⟩
                rw [hy] at r0 r1 r2 hR2 hstep hbad hyl
                simp only [hy] at hget
                obtain ⟨ym, hym⟩ : ∃ ym, y.ms = ym := ⟨_, rfl⟩
                rw [hym] at r2 hR2 hstep hbad hyl
                simp only [hym] at hget
                obtain ⟨pb, e1, e2⟩ : ∃ pb : ByteArray, strB y.pat = .string pb ∧ txt pb = y.pat := ⟨⟨y.pat.toArray⟩, rfl, txt_mk _⟩
                rw [e1] at r0
                have HX := Lib.hid (And.intro hget (And.intro hstep hbad))
                have k1 : (0 : Int) ≤ (k : Int) := by omega
                have k2 : (k : Int) < (L.length : Int) := by omega
                clear hy hym hmem hget hstep hbad e1 hn2 hR2
                by_cases hp : y.pat = txt s
                · obtain rfl : s = pb := by rw [← mk_txt pb, ← mk_txt s, e2, hp]
                  have HP := Lib.hid hp
                  clear e2 hp
                  by_cases hm0 : ms = []
                  · have hc : addC L x = 11 := HX.out.2.2 HP.out (by rw [hm0]; rfl)
                    have HE := Lib.hid (rAddPost.not hc (by decide) HI.out HS2.out.1)
                    have e0 : ((ms.length : Int) == 0) = true := by rw [hm0]; rfl
                    clear hc hm0
                    go_wp2_with fail
                    go_ret
                    exact HE.out
                  · have e0 : ((ms.length : Int) == 0) = false := by simpa using hm0
                    have HM := Lib.hid hm0
                    clear hm0
                    by_cases hy0 : ym = []
                    · have hc : addC L x = 11 := HX.out.2.2 HP.out (by rw [hy0]; unfold clash; simp)
                      have HE := Lib.hid (rAddPost.not hc (by decide) HI.out HS2.out.1)
                      have e1 : ((ym.length : Int) == 0) = true := by rw [hy0]; rfl
                      clear hc hy0
                      go_wp2_with fail
                      go_ret
                      exact HE.out
                    · have e1 : ((ym.length : Int) == 0) = false := by simpa using hy0
                      have HY := Lib.hid hy0
                      clear hy0
                      go_wp2_with fail
                      obtain ⟨wo2, hwo2⟩ : ∃ wo2 : World, wo2 = wr := ⟨_, rfl⟩
                      rw [← hwo2] at HS2
                      have HW2 := Lib.hid hwo2
                      clear c0 r0 r1 r2
                      go_loopw [11] (fun i wr => CjRel w ms ym i wr) (fun i _ => ms.length - (intOf i).toNat)
                      case atStart => exact ⟨0, Nat.zero_le _, rfl, HW2.out ▸ HS2.out.1, fun y h => by simp at h⟩
                      case round =>
                        obtain ⟨j, hj, rfl, hsm, hno⟩ := hrel
                        have HS3 := Lib.hid (And.intro hsm hno)
                        have c0 := (HT.out.1.no hsm).1.at 0 (v := .slice (some ⟨g, 0, none⟩) L.length cL) rfl
                        clear hsm hno
                        by_cases hlt2 : j < ms.length
                        · obtain ⟨g', A3, c3, hg, r0, r1, r2, hR3, hn3⟩ := HX.out.1 wr HS3.out.1
                          obtain rfl : g = g' := by simpa using hg
                          obtain ⟨bb, off, hAe, hbb, r3⟩ := (HT.out.2.1.no HS3.out.1).at (strV_at hlt2)
                          subst hAe
                          obtain ⟨t, ht⟩ : ∃ t : ByteArray, (⟨ms[j].toArray⟩ : ByteArray) = t := ⟨_, rfl⟩
                          have hts : txt t = ms[j] := by rw [← ht, txt_mk]
                          rw [ht] at r3
                          obtain ⟨b, hb⟩ : ∃ b, ym.contains (txt t) = b := ⟨_, rfl⟩
                          have HB := Lib.hid hb
                          have hmem := List.getElem_mem hlt2
                          rw [← hts] at hmem
                          have hst : ym.contains (txt t) = false → ∀ t ∈ ms.take (j + 1), ym.contains t = false := fun e => take_step HS3.out.2 hlt2 (by rw [← hts]; exact e)
                          have HZ := Lib.hid (And.intro hR3 (And.intro hmem hst))
                          have j1 : (0 : Int) ≤ (j : Int) := by omega
                          have j2 : (j : Int) < (ms.length : Int) := by omega
                          clear hg hR3 hn3 ht hts hb hmem hst
                          cases b with
                          | true =>
                            have hc : addC L x = 11 := HX.out.2.2 HP.out (clash_hit HZ.out.2.1 HB.out)
                            have HE := Lib.hid (fun n => rAddPost.not hc (by decide) HI.out (HS3.out.1.drewN n))
                            clear hc
                            go_wp2_with fail
                            go_quiet ((go_at_call 68; exact Calls.quiet_of_same (same_quiet (rhas_say HB _ A3 c3 HZ.out.1 (by omega)))))
                            go_wp2_with fail
                            go_ret
                            exact HE.out _
                          | false =>
                            have HN := Lib.hid (HZ.out.2.2 HB.out)
                            go_wp2_with fail
                            go_quiet ((go_at_call 68; exact Calls.quiet_of_same (same_quiet (rhas_say HB _ A3 c3 HZ.out.1 (by omega)))))
                            go_wp2_with fail
                            exact ⟨⟨j + 1, by omega, by go_num, HS3.out.1.drewN _, HN.out⟩, by simp [intOf]; omega⟩
                        · have hcl := clash_has HM.out HY.out (fun t ht => HS3.out.2 t (by rw [List.take_of_length_le (by omega)]; exact ht))
                          have HN := Lib.hid (HX.out.2.1 (fun _ => hcl))
                          clear hcl
                          go_wp2_with fail
                          exact ⟨⟨k + 1, by omega, by go_num, HS3.out.1, HN.out⟩, by simp [intOf]; omega⟩
                · have e3 : ¬ pb.toList = s.toList := fun e => hp (e2 ▸ (bytes_eq_iff pb (txt s)).1 (e.trans ((bytes_eq_iff s (txt s)).2 rfl)))
                  have e4 : (pb.toList == s.toList) = false := by simpa using e3
                  have HN := Lib.hid (HX.out.2.1 (fun e => absurd e hp))
                  clear hp e2
                  go_wp2_with fail
                  exact ⟨⟨k + 1, by omega, by go_num, HS2.out.1, HN.out⟩, by simp [intOf]; omega⟩
              · have hc : addC L x = 0 := by
                  rw [HC3.out, if_neg]
                  intro hany
                  obtain ⟨y, hy, hcl⟩ := List.any_eq_true.1 hany
                  obtain ⟨hy1, hy2⟩ := List.mem_filter.1 hy
                  have := HS2.out.2 y (by rw [List.take_of_length_le (by omega)]; exact hy1) (by simpa using hy2)
                  rw [this] at hcl
                  cases hcl
                have hA0 : A = none → ms.length = 0 ∧ c = 0 := fun e => by
                  refine ⟨?_, hn e⟩
                  rcases Nat.eq_zero_or_pos ms.length with h | h
                  · exact h
                  · obtain ⟨_, _, he, _⟩ := HT.out.2.1.at (strV_at h)
                    rw [e] at he; cases he
                have hse : Sm No w (wr.alloc (.cells #[] 9)).drew := (HS2.out.1.alloc _).drew
                have HE := Lib.hid (And.intro hc (And.intro hA0 (And.intro (World.ownsRow.drew (own_empty wr 9 1 (B := w.heap.size) HS2.out.1.size)) (And.intro (HT.out.2.1.no hse) hse.size))))
                have HBk := Lib.hid HT.out.1.1
                have HRr := Lib.hid HT.out.1.2.1
                have HNr := Lib.hid (own_not_bk HT.out.1.2.1 HT.out.1.1 (fun e => HT.out.1.2.2.2.2.2.2.2.2.1 e.symm))
                have hrl := (HT.out.1.1.sm HS2.out.1 (fun h => h)).lt
                clear hc hA0 hse
                go_wp2_with fail
                go_region_law
                  ((first
                    | (refine step_push_opt0 (by rfl) _ _ 82 9 (by rfl) Tryz.underlying82 _ 1 16 infoStr rfl (by decide) (by decide) w.heap.size _ (by rfl) HE.out.2.2.1 A ms.length c (ms.map strV) (by rfl) HE.out.2.1 (by simp) HE.out.2.2.2.1 (by simp [strV, Value.oneCell']) (by omega) HE.out.2.2.2.2 ?_; intro A4 c4' w4 hown4 hs4 hb4; have hs14 := twin_s4 HS2.out.1 hs4; have hb4' := HBk.out.sm hs14 (fun h => h); have c4 := hb4'.at 0 (v := .slice AL L.length cL) rfl; have hrl4 := hb4'.lt; clear hb4'; have H4 := Lib.hid (And.intro hown4 hs14); clear hown4 hs4 hb4 hs14)
                    | (refine step_push (by rfl) _ _ 71 84 (by rfl) Tryz.underlying71 _ 3 48 infoTw rfl (by decide) (by decide) 0 L.length _ (tcells l) (by rfl) (own_row_sm HRr.out (H4.out.2.alloc (.cells #[.string s, .int .i64 id, .slice A4 ms.length c4'] 84)) (fun _ _ h => h)) w4.heap.size #[.string s, .int .i64 id, .slice A4 ms.length c4'] (by rfl) (Bk.new w4 _ _) rfl (by simp [Value.oneCell']) (by omega) (by omega) ?_; intro rr cap w6 hown6 hs6 hr6; have hb6 := (HBk.out.sm (H4.out.2.alloc (.cells #[.string s, .int .i64 id, .slice A4 ms.length c4'] 84)) (fun h => h)).sm hs6 HNr.out; have c6 := hb6.at 0 (v := .slice AL L.length cL) rfl; have z6 := hb6.fz 0; have H6 := Lib.hid (And.intro hown6 (And.intro hs6 hr6)); clear hown6 hs6 hr6 hb6)))
                all_goals
                  have hfin := rAddPost.yes (w5 := w4.alloc (.cells #[.string s, .int .i64 id, .slice A4 ms.length c4'] 84)) (x := x) (cv := .slice A4 ms.length c4') (v' := .slice (some ⟨rr, 0, none⟩) (L.length + 1) cap) HE.out.1 HT.out.1 H4.out.2 (by rw [← HT.out.2.2.2.2]; exact H4.out.1) ((Sm.refl No w4).alloc _)
                    (by rw [← HT.out.2.2.2.2, strB_txt]; exact H6.out.1) H6.out.2.1 (by
                      rcases H6.out.2.2 with e | e
                      · exact Or.inl e.symm
                      · exact Or.inr (by rw [← e]; rfl))
                  have HFin := Lib.hid hfin
                  clear hfin
                  go_wp2_with fail
                  go_ret
                  exact HFin.out
    · have hc : addC L x = 1 := by rw [HC.out, if_neg (by simp [hid])]
      have HE := Lib.hid hc
      clear hc
      go_enter Tryz.func30, Tryz.ntmps30
      go_wp2_with fail
      refine HPt.out.mono ?_
      rintro e w1 ⟨rfl, hs1⟩
      have H1 := Lib.hid (rAddPost.not HE.out (by decide) HI.out hs1)
      clear hs1
      go_wp2_with fail
      go_ret
      exact H1.out
end Go.Proofs.YtiglfbimijnpcaaGreatDoor

