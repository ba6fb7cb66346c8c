/- The walk of ListBack. -/
import Derived.Test.YtppciofbaohpdaaDoorListO
import Derived.Test.YtppciofbaohpdaaDoorListN
import Derived.Deep.RegionLaw
namespace Go.Proofs.YtppciofbaohpdaaDoor
open Go.RowKit Go.Proofs

def zipP (vs us : List ByteArray) : List Par := List.zip (bytesL vs) (bytesL us)
theorem zipP_len (vs us : List ByteArray) : (zipP vs us).length = min vs.length us.length := by simp [zipP, bytesL]
theorem zipP_take {vs us : List ByteArray} {k : Nat} (h1 : k < vs.length) (h2 : k < us.length) : (zipP vs us).take (k + 1) = (zipP vs us).take k ++ [(vs[k].data.toList, us[k].data.toList)] := by
  have hl : k < (zipP vs us).length := by rw [zipP_len]; omega
  rw [List.take_succ_eq_append_getElem hl]
  congr 2
  simp [zipP, bytesL]

def BackRel9 (w1 : World) (vs us : List ByteArray) (s want i : Value) (wr : World) : Prop :=
  ∃ (k : Nat) (t : ByteArray), k ≤ vs.length ∧ k ≤ us.length ∧ i = .int .i64 k ∧ s = .string t ∧ t.data.toList = ((zipP vs us).take k).flatMap itemL ∧ t.size ≤ 10000 * k ∧
    OwnP 61 wr w1.heap.size want ((zipP vs us).take k) ∧ (∀ p ∈ (zipP vs us).take k, goodP p) ∧ Sm No w1 wr
def EscRel (v : ByteArray) (q i : Value) : Prop := ∃ (j : Nat) (u : ByteArray), j ≤ v.size ∧ i = .int .i64 j ∧ q = .string u ∧ u.data.toList = 34 :: escL (v.data.toList.take j) ∧ u.size ≤ 1 + 2 * j

set_option maxRecDepth 100000 in
set_option maxHeartbeats 16000000 in
theorem back9_any (A : Option Addr) (vs : List ByteArray) (c : Nat) (B : Option Addr) (us : List ByteArray) (d : Nat) (w : World) (hA : ArgS w A vs c) (hB : ArgS w B us d) (hg : G0 w) :
    Calls Tryd.prog 9 #[.slice A vs.length c, .slice B us.length d] w fun e w' => e = .returned (.bool true) ∧ Sm No w w' := by
  have HH := Lib.hid (heavy9_any w A c vs hA)
  have HB := Lib.hid (And.intro hA.1 (And.intro hB hg))
  have hvl : vs.length ≤ 8796093022208 := by have := hA.2.1; have := hA.2.2.1; omega
  have hul : us.length ≤ 8796093022208 := by have := hB.2.1; have := hB.2.2.1; omega
  have hvc := hA.2.1
  have hcc := hA.2.2.1
  clear hA hB hg
  go_enter Tryd.func9, Tryd.ntmps9
  go_wp2_with fail
  refine HH.out.mono ?_
  rintro e w1 ⟨b, rfl, hs1, hlight⟩
  cases b
  · have HL := Lib.hid (And.intro (hlight rfl) hs1)
    clear hlight hs1
    go_wp2_with fail
    refine (heavy9_any w1 B d us ⟨HB.out.2.1.1.no HL.out.2, HB.out.2.1.2⟩).mono ?_
    rintro e w2 ⟨b, rfl, hs2, hlight⟩
    cases b
    · have HM := Lib.hid (And.intro (hlight rfl) (HL.out.2.trans hs2 (fun _ _ h => h)))
      clear hlight hs2
      by_cases h16 : 16 < vs.length
      · go_wp2_with fail
        go_ret
        exact ⟨rfl, HM.out.2⟩
      · go_wp2_with fail
        go_loopw [5, 6, 7] (fun s want i wr => BackRel9 w2 vs us s want i wr) (fun _ _ i _ => vs.length - (intOf i).toNat)
        case atStart => exact ⟨0, ⟨#[]⟩, Nat.zero_le _, Nat.zero_le _, rfl, rfl, by simp, Nat.zero_le _, World.ownsRow_nil _ _ _ 2, by simp, Sm.refl _ _⟩
        case round =>
          obtain ⟨k, t, hk1, hk2, rfl, rfl, htd, hts, hO, hgood, hs⟩ := hrel
          obtain ⟨wo, rfl⟩ : ∃ wo : World, wo = wr := ⟨_, rfl⟩
          have HS := Lib.hid (And.intro htd (And.intro hO (And.intro hgood (And.intro hs (HM.out.2.trans hs (fun _ _ h => h))))))
          have hlenk : ((zipP vs us).take k).length = k := by rw [List.length_take, zipP_len]; omega
          have hOk : wo.ownsRow w2.heap.size 61 2 u6 k (parCells ((zipP vs us).take k)) := by
            have := hO
            unfold OwnP at this
            rw [hlenk] at this
            exact this
          have HOk := Lib.hid (And.intro hOk hlenk)
          clear htd hO hgood hs hOk hlenk
          by_cases hlt : k < vs.length ∧ k < us.length
          · obtain ⟨hlt1, hlt2⟩ := hlt
            obtain ⟨bb, off, hAe, hbb, r0⟩ := (HB.out.1.no HS.out.2.2.2.2) k hlt1
            obtain ⟨b2, o2, hBe, hb2, r1⟩ := (HB.out.2.1.1.no HS.out.2.2.2.2) k hlt2
            subst hAe hBe
            have x0 := HL.out.1.size _ (List.getElem_mem hlt1)
            have x1 := HM.out.1.size _ (List.getElem_mem hlt2)
            have hzp := zipP_take hlt1 hlt2
            obtain ⟨nm, hnm⟩ : ∃ x, vs[k] = x := ⟨_, rfl⟩
            obtain ⟨vl, hvl2⟩ : ∃ x, us[k] = x := ⟨_, rfl⟩
            rw [hnm] at r0 x0 hzp
            rw [hvl2] at r1 x1 hzp
            have HZ := Lib.hid hzp
            have hL1 : (restL [nm] 0).length ≤ 1000000 := by
              have := commaL_many nm.data.toList
              rw [← size_toList'] at this
              simp [restL, bytesL]
              omega
            have HTok := Lib.hid (rTokens_any wo (some ⟨bb, off + k, none⟩) (c - k) [nm] (fun j hj => by
              obtain rfl : j = 0 := by simpa using hj
              exact ⟨bb, off + k, rfl, hbb, r0⟩) (by simp) (fun s hs => by obtain rfl := List.mem_singleton.1 hs; omega) hL1)
            have k1 : (0 : Int) ≤ (k : Int) := by omega
            have k2 : (k : Int) < (vs.length : Int) := by omega
            have k3 : (k : Int) < (us.length : Int) := by omega
            have k4 : (k : Int) + 1 ≤ (c : Int) := by omega
            have k5 : (k : Int) + 1 ≤ (vs.length : Int) := by omega
            have k6 : k + 1 ≤ c := by omega
            clear hnm hvl2 hzp hL1
            go_wp2_with fail
            refine HTok.out.mono ?_
            rintro e w3 hcase
            obtain ⟨v3, b3, r3, rfl, hT3⟩ := tok2_of hcase
            obtain ⟨A3, c3, rfl, hR3, _⟩ := hT3.1.row
            have H3 := Lib.hid (And.intro hT3 (And.intro hR3 (HS.out.2.2.2.2.trans hT3.2.1 (fun _ _ h => h))))
            have H3s := Lib.hid (And.intro hT3.2.1 (HS.out.2.2.2.1.trans hT3.2.1 (fun _ _ h => h)))
            have HO3 := Lib.hid (own_row_sm HOk.out.1 hT3.2.1 (fun _ _ h => h))
            have r0' := hT3.2.1.cell hbb r0
            have r1' := hT3.2.1.cell hb2 r1
            clear hcase hT3 hR3
            cases b3
            · go_wp2_with fail
              go_quiet (fail)
              go_wp2_with fail
              refine (known9_any _ (HB.out.2.2.no (H3.out.2.2.drewN _))).mono ?_
              rintro e w4 ⟨rfl, hs4⟩
              go_wp2_with fail
              go_ret
              exact ⟨rfl, (H3.out.2.2.drewN _).trans hs4 (fun _ _ h => h)⟩
            · by_cases hr1 : r3.length = 1
              · obtain ⟨y, rfl⟩ : ∃ y, r3 = [y] := by
                  match r3, hr1 with
                  | [y], _ => exact ⟨y, rfl⟩
                obtain ⟨b4, o4, hA4, hb4, r2⟩ := H3.out.2.1.at (j := 0) (u := strV y) rfl
                subst hA4
                rw [Nat.add_zero, strV] at r2
                have htk : smallTok y := tokensL_small H3.out.1.2.2.1 y (by simp)
                by_cases hy : y = nm.data.toList
                · have htok : tokL nm.data.toList = true := by rw [← hy]; exact htk.1
                  have hyn : (⟨y.toArray⟩ : ByteArray) = nm := by rw [hy]
                  rw [hyn] at r2
                  have HTK := Lib.hid htok
                  clear htok htk hy hyn
                  go_wp2_with fail
                  go_quiet (fail)
                  have hz : 0 < vl.size ∨ vl.size = 0 := by omega
                  go_wp2_with fail
                  go_loop [10, 11] (fun q i => EscRel vl q i) (fun _ i => vl.size - (intOf i).toNat)
                  case atStart => exact ⟨0, _, Nat.zero_le _, rfl, rfl, by simp [escL], by decide⟩
                  case round =>
                    obtain ⟨j, u, hj, rfl, rfl, hud, hus⟩ := hrel
                    have HU := Lib.hid hud
                    clear hud
                    by_cases hlt3 : j < vl.size
                    · have htk := take_snoc vl j hlt3
                      obtain ⟨ch, hch⟩ : ∃ x, vl[j] = x := ⟨_, rfl⟩
                      rw [hch] at htk
                      obtain ⟨y1, hy1⟩ : ∃ x, vl.extract j (j + 1) = x := ⟨_, rfl⟩
                      have hy1d : y1.data.toList = [ch] := by
                        rw [← hy1, Lib.extract_data, show j + 1 - j = 1 by omega, drop_at vl j hlt3, hch]; rfl
                      have hy1s : y1.size = 1 := by rw [size_toList', hy1d]; rfl
                      have j1 : (0 : Int) ≤ (j : Int) := by omega
                      have j2 : (j : Int) < (vl.size : Int) := by omega
                      have j3 : (j : Int) + 1 ≤ (vl.size : Int) := by omega
                      have HT2 := Lib.hid (And.intro htk hy1d)
                      have hu1 : u.size + 1 ≤ 20000 := by omega
                      have hu2 : u.size + 1 + y1.size ≤ 20000 := by omega
                      have hu3 : u.size + y1.size ≤ 20000 := by omega
                      clear htk hy1d
                      by_cases hc : ch = 34 ∨ ch = 92
                      · have hesc : escC ch = [92, ch] := by unfold escC; rw [if_pos hc]
                        have hR : EscRel vl (.string (u ++ (⟨#[92]⟩ : ByteArray) ++ y1)) (.int .i64 ((j + 1 : Nat) : Int)) := by
                          refine ⟨j + 1, _, hlt3, rfl, rfl, ?_, ?_⟩
                          · rw [toList_append', toList_append', HU.out, HT2.out.1, HT2.out.2, escL_snoc, hesc]; simp
                          · rw [ByteArray.size_append, ByteArray.size_append]; have : (⟨#[92]⟩ : ByteArray).size = 1 := rfl; omega
                        have HR := Lib.hid hR
                        by_cases hc1 : ch = 34
                        · have t1 : ((ch.toNat : Int) == 34) = true := by rw [hc1]; rfl
                          clear hR hesc hc hc1
                          go_wp2_with fail
                          exact ⟨HR.out, by simp [intOf]; omega⟩
                        · have t1 : ((ch.toNat : Int) == 34) = false := u8_ne (n := 34) (by decide) hc1
                          have hc2 : ch = 92 := hc.resolve_left hc1
                          have t2 : ((ch.toNat : Int) == 92) = true := by rw [hc2]; rfl
                          clear hR hesc hc hc1 hc2
                          go_wp2_with fail
                          exact ⟨HR.out, by simp [intOf]; omega⟩
                      · have hesc : escC ch = [ch] := by unfold escC; rw [if_neg hc]
                        have hR : EscRel vl (.string (u ++ y1)) (.int .i64 ((j + 1 : Nat) : Int)) := by
                          refine ⟨j + 1, _, hlt3, rfl, rfl, ?_, ?_⟩
                          · rw [toList_append', HU.out, HT2.out.1, HT2.out.2, escL_snoc, hesc]; simp
                          · rw [ByteArray.size_append]; omega
                        have HR := Lib.hid hR
                        have t1 : ((ch.toNat : Int) == 34) = false := u8_ne (n := 34) (by decide) (fun h => hc (Or.inl h))
                        have t2 : ((ch.toNat : Int) == 92) = false := u8_ne (n := 92) (by decide) (fun h => hc (Or.inr h))
                        clear hR hesc hc
                        go_wp2_with fail
                        exact ⟨HR.out, by simp [intOf]; omega⟩
                    · have htkj : vl.data.toList.take j = vl.data.toList := List.take_of_length_le (by rw [← size_toList']; omega)
                      have hud := HU.out
                      rw [htkj] at hud
                      have hue := escL_len vl.data.toList
                      rw [← size_toList'] at hue
                      have hus2 : u.size = (escL vl.data.toList).length + 1 := by rw [size_toList', hud]; rfl
                      obtain ⟨u2, hu2⟩ : ∃ x, u ++ (⟨#[34]⟩ : ByteArray) = x := ⟨_, rfl⟩
                      have hu2d : u2.data.toList = 34 :: (escL vl.data.toList ++ 34 :: []) := by rw [← hu2, toList_append', hud]; rfl
                      have hu2s : u2.size ≤ 1000000 := by rw [size_toList', hu2d]; simp; omega
                      have hQ := quoteL_esc vl.data.toList []
                      rw [← hu2d] at hQ
                      have HUD := Lib.hid hud
                      have hu1 : u.size + 1 ≤ 20000 := by omega
                      clear htkj hud hu2d
                      cases hall : vl.data.toList.all valB
                      · rw [hall, if_neg (by simp)] at hQ
                        have HQ := Lib.hid hQ
                        clear hQ hall
                        go_wp2_with fail
                        refine (rQuoted_say HQ hu2s _).mono ?_
                        rintro e w6 ⟨rfl, hs6⟩
                        have hne5 : ((0 : Int) != (u.size : Int) + 1) = true := by simp; omega
                        have H6 := Lib.hid ((H3.out.2.2.drewN nq).trans hs6 (fun _ _ h => h))
                        clear hs6
                        go_wp2_with fail
                        refine (known9_any _ (HB.out.2.2.no H6.out)).mono ?_
                        rintro e w7 ⟨rfl, hs7⟩
                        go_wp2_with fail
                        go_ret
                        exact ⟨rfl, H6.out.trans hs7 (fun _ _ h => h)⟩
                      · rw [hall, if_pos rfl, show (escL vl.data.toList).length + 2 = u.size + 1 by omega] at hQ
                        have HQ := Lib.hid hQ
                        have hgp : goodP (nm.data.toList, vl.data.toList) := ⟨HTK.out, hall⟩
                        have HGP := Lib.hid hgp
                        have hnn : (((u.size + 1 : Nat) : Int) != (u.size : Int) + 1) = false := by simp
                        have hnn2 : (((u.size + 1 : Nat) : Int) == (u.size : Int) + 1) = true := by simp
                        have z1 : t.size + 3 ≤ 2000000 := by omega
                        have z2 : t.size + 3 + nm.size ≤ 2000000 := by omega
                        have z3 : t.size + 3 + nm.size + 1 ≤ 2000000 := by omega
                        have z4 : t.size + 3 + nm.size + 1 + u.size ≤ 2000000 := by omega
                        have z5 : t.size + 3 + nm.size + 1 + u.size + 1 ≤ 2000000 := by omega
                        obtain ⟨A6, c6, hv6, _⟩ := own_rowC HO3.out
                        subst hv6
                        have hbl : u.size ≤ 6001 := by omega
                        clear hQ hall hgp hus2
                        go_wp2_with fail
                        refine (rQuoted_say HQ hu2s _).mono ?_
                        rintro e w6 ⟨rfl, hs6⟩
                        have hs36 := (Sm.refl No w3).drewN nq |>.trans hs6 (fun _ _ h => h)
                        have r0'' := hs36.cell (Nat.lt_of_lt_of_le hbb H3s.out.1.size) r0'
                        have r1'' := hs36.cell (Nat.lt_of_lt_of_le hb2 H3s.out.1.size) r1'
                        have H6 := Lib.hid (And.intro (own_row_sm HO3.out hs36 (fun _ _ h => h)) (And.intro (H3s.out.2.trans hs36 (fun _ _ h => h)) (H3.out.2.2.trans hs36 (fun _ _ h => h))))
                        have hkl : k ≤ 1000000 := by omega
                        have HOwn := Lib.hid ((World.ownsRow.alloc H6.out.1 (.cells #[.string nm, .string vl] 61)).drew)
                        have HBlk := Lib.hid (Bk.new w6 61 #[.string nm, .string vl]).drew
                        have HBB := Lib.hid (show w2.heap.size ≤ ((w6.alloc (.cells #[.string nm, .string vl] 61)).drew).heap.size by have := H6.out.2.1.size; simp; omega)
                        clear hs6 hs36 r0 r1 r0' r1' r2
                        go_wp2_with fail
                        go_region_law
                          ((refine step_push (by rfl) _ _ 56 61 (by rfl) Tryd.underlying56 _ 2 32 infoRPar rfl (by decide) (by decide) w2.heap.size _ _ (parCells ((zipP vs us).take k)) (by rfl) HOwn.out w6.heap.size #[.string nm, .string vl] (by rfl) HBlk.out rfl (by simp [Value.oneCell']) hkl HBB.out ?_; intro r cap w7 hown7 hs7 hr7))
                        all_goals
                          have hS7 : Sm No w2 w7 := ((H6.out.2.1.alloc (.cells #[.string nm, .string vl] 61)).drew).trans hs7 (fun b hb e => by
                            have := (World.ownsRow.lt H6.out.1 b e).1
                            omega)
                          have hP7 : OwnP 61 w7 w2.heap.size (.slice (some ⟨r, 0, none⟩) (k + 1) cap) ((zipP vs us).take (k + 1)) := by
                            unfold OwnP
                            rw [HZ.out, parCells_snoc, List.length_append, HOk.out.2]
                            exact hown7
                          have hR7 : BackRel9 w2 vs us (.string (t ++ (⟨#[32, 59, 32]⟩ : ByteArray) ++ nm ++ (⟨#[61]⟩ : ByteArray) ++ u ++ (⟨#[34]⟩ : ByteArray))) (.slice (some ⟨r, 0, none⟩) (k + 1) cap) (.int .i64 ((k + 1 : Nat) : Int)) w7 := by
                            refine ⟨k + 1, _, hlt1, hlt2, rfl, rfl, ?_, ?_, hP7, ?_, hS7⟩
                            · rw [HZ.out, List.flatMap_append, ← HS.out.1]
                              simp only [toList_append', HUD.out, itemL, List.flatMap_cons, List.flatMap_nil, List.append_nil, List.append_assoc]
                            · simp only [ByteArray.size_append]
                              have e3 : (⟨#[32, 59, 32]⟩ : ByteArray).size = 3 := rfl
                              have e1 : (⟨#[61]⟩ : ByteArray).size = 1 := rfl
                              have e2 : (⟨#[34]⟩ : ByteArray).size = 1 := rfl
                              omega
                            · intro p hp
                              rw [HZ.out, List.mem_append] at hp
                              rcases hp with hp | hp
                              · exact HS.out.2.2.1 p hp
                              · obtain rfl := List.mem_singleton.1 hp; exact HGP.out
                          have HR7 := Lib.hid hR7
                          clear hS7 hP7 hR7 hown7 hs7 hr7
                          go_wp2_with fail
                          exact ⟨HR7.out, by simp [intOf]; omega⟩
                · have hne : (y != nm.toList) = true := by rw [Go.ByteArray.toList_eq]; simpa using hy
                  have hne2 : (y == nm.toList) = false := by rw [Go.ByteArray.toList_eq]; simpa using hy
                  have hne3 : ¬ y = nm.toList := by rw [Go.ByteArray.toList_eq]; exact hy
                  clear htk hy
                  go_wp2_with fail
                  go_quiet (fail)
                  go_wp2_with fail
                  refine (known9_any _ (HB.out.2.2.no (H3.out.2.2.drewN _))).mono ?_
                  rintro e w4 ⟨rfl, hs4⟩
                  go_wp2_with fail
                  go_ret
                  exact ⟨rfl, (H3.out.2.2.drewN _).trans hs4 (fun _ _ h => h)⟩
              · have hr1' : (((r3.length : Nat) : Int) != 1) = true := by simp; omega
                go_wp2_with fail
                go_quiet (fail)
                go_wp2_with fail
                refine (known9_any _ (HB.out.2.2.no (H3.out.2.2.drewN _))).mono ?_
                rintro e w4 ⟨rfl, hs4⟩
                go_wp2_with fail
                go_ret
                exact ⟨rfl, (H3.out.2.2.drewN _).trans hs4 (fun _ _ h => h)⟩
          · have hall : (zipP vs us).take k = zipP vs us := List.take_of_length_le (by rw [zipP_len]; omega)
            have hpl : (zipP vs us).length = k := by rw [← hall]; exact HOk.out.2
            have hpar := params_back (ps := zipP vs us) (by rw [← hall]; exact HS.out.2.2.1) (by omega)
            have htd := HS.out.1
            rw [hall] at htd
            rw [← htd] at hpar
            have hts2 : t.size ≤ 1000000 := by omega
            have hOw := HOk.out.1
            rw [hall] at hOw
            obtain ⟨A6, c6, hv6, hR6, _⟩ := own_rowC hOw
            subst hv6
            have HP := Lib.hid (And.intro hpar (And.intro hpl hR6))
            have hend : ∀ (_ : k < vs.length), ¬ k < us.length := fun h1 h2 => hlt ⟨h1, h2⟩
            clear hall hpl hpar htd hOw hR6
            by_cases hk3 : k < vs.length
            · have hk4 : ¬ k < us.length := hend hk3
              clear hend hlt
              go_wp2_with fail
              refine (params_any t hts2 _).mono ?_
              rintro e w3 (⟨r, v, hr, rfl, hO3, _, hs3⟩ | ⟨hr, _⟩)
              · rw [HP.out.1] at hr
                injection hr with hr
                subst hr
                obtain ⟨A3, c3, rfl, hR3⟩ := hO3.row
                have hPx := params9_any w3 A3 A6 c3 c6 (zipP vs us) hR3 (HP.out.2.2.no hs3) (by rw [HP.out.2.1]; omega)
                rw [HP.out.2.1] at hPx ⊢
                have HPx := Lib.hid hPx
                have H3 := Lib.hid (HS.out.2.2.2.2.trans hs3 (fun _ _ h => h))
                clear hPx hO3 hR3 hs3
                go_wp2_with fail
                refine HPx.out.mono ?_
                rintro e w4 ⟨rfl, hs4⟩
                have H4 := Lib.hid (H3.out.trans hs4 (fun _ _ h => h))
                clear hs4
                go_wp2_with fail
                refine (known9_any _ (HB.out.2.2.no H4.out)).mono ?_
                rintro e w5 ⟨rfl, hs5⟩
                go_wp2_with fail
                go_ret
                exact ⟨rfl, H4.out.trans hs5 (fun _ _ h => h)⟩
              · rw [HP.out.1] at hr; cases hr
            · clear hend hlt
              go_wp2_with fail
              refine (params_any t hts2 _).mono ?_
              rintro e w3 (⟨r, v, hr, rfl, hO3, _, hs3⟩ | ⟨hr, _⟩)
              · rw [HP.out.1] at hr
                injection hr with hr
                subst hr
                obtain ⟨A3, c3, rfl, hR3⟩ := hO3.row
                have hPx := params9_any w3 A3 A6 c3 c6 (zipP vs us) hR3 (HP.out.2.2.no hs3) (by rw [HP.out.2.1]; omega)
                rw [HP.out.2.1] at hPx ⊢
                have HPx := Lib.hid hPx
                have H3 := Lib.hid (HS.out.2.2.2.2.trans hs3 (fun _ _ h => h))
                clear hPx hO3 hR3 hs3
                go_wp2_with fail
                refine HPx.out.mono ?_
                rintro e w4 ⟨rfl, hs4⟩
                have H4 := Lib.hid (H3.out.trans hs4 (fun _ _ h => h))
                clear hs4
                go_wp2_with fail
                refine (known9_any _ (HB.out.2.2.no H4.out)).mono ?_
                rintro e w5 ⟨rfl, hs5⟩
                go_wp2_with fail
                go_ret
                exact ⟨rfl, H4.out.trans hs5 (fun _ _ h => h)⟩
              · rw [HP.out.1] at hr; cases hr
    · clear hlight
      go_wp2_with fail
      go_ret
      exact ⟨rfl, HL.out.2.trans hs2 (fun _ _ h => h)⟩
  · clear hlight
    go_wp2_with fail
    go_ret
    exact ⟨rfl, hs1⟩
end Go.Proofs.YtppciofbaohpdaaDoor
