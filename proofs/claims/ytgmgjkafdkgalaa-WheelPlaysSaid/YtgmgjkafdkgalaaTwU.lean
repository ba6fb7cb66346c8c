/- The document's Slab (usherref2): Put. Printed by genPut.py. -/
import Derived.Test.YtgmgjkafdkgalaaTwQ
namespace Go.Proofs.Ytgmgjkafdkgalaa
open Go.RowKit Go.Proofs Go.Maps

theorem infoBo : (Try.prog.info? 4).map (fun i => (i.zero, i.size, i.bytes)) = some (some (.bool false), 1, 1) := by kernel_rfl
theorem infoInt : (Try.prog.info? 3).map (fun i => (i.zero, i.size, i.bytes)) = some (some (.int .i64 0), 1, 8) := by kernel_rfl
set_option maxRecDepth 100000 in
set_option maxHeartbeats 8000000 in
theorem rsPut_any (w : World) (O : Nat → Prop) (s : Nat) (l : List Sl) (v : Int) (hR : RSl w O s l) (hl : l.length ≤ 4090) (hg : ∀ x ∈ l, x.g ≤ 100000) :
    Calls Try.prog 41 #[.pointer (some ⟨s, 0, none⟩), .int .i64 v] w fun e w' => e = .returned (.tuple #[hv (newH l), .int .i64 0]) ∧ RPost w O s (putB l v) w' := by
  have hfl := freeI_le l
  obtain ⟨uv, gv, vv, h1, h2, h3, h4, h5, h6, h7, h8⟩ := id hR
  obtain ⟨Au, cu, rfl, hRu, _⟩ := own_rowC h2
  have hs0 := (Sm.refl No w).alloc (.cells #[.int .i64 0, .int .i64 0] 29)
  have b1 := h1.no hs0
  have c0 := b1.at 0 (v := .int .i64 4096) rfl
  have c1 := b1.at 1 (v := .slice Au l.length cu) rfl
  have c4 := b1.at 4 (v := .int .i64 (usedN l)) rfl
  have hun := usedN_le l
  obtain ⟨un, hune⟩ : ∃ un, usedN l = un := ⟨_, rfl⟩
  rw [hune] at c4 hun
  have hsl := b1.lt
  have HUN := Lib.hid hune
  have H := Lib.hid (And.intro hR (And.intro hRu (And.intro hg (And.intro h1 (And.intro h2 (And.intro h3 (And.intro h4 (And.intro h5 (And.intro h6 (And.intro h7 h8))))))))))
  clear hR h1 h2 h3 h4 h5 h6 h7 h8 hRu hs0 b1 hune hg
  go_enter Try.func41, Try.ntmps41
  go_wp2_with fail
  go_quiet (fail)
  go_wp2_with fail
  have hs0 : Sm No w ((w.alloc (.cells #[.int .i64 0, .int .i64 0] 29)).drewN nq) := ((Sm.refl No w).alloc _).drewN nq
  have hrb : Bk ((w.alloc (.cells #[.int .i64 0, .int .i64 0] 29)).drewN nq) w.heap.size 29 #[.int .i64 0, .int .i64 0] := (Bk.new w _ _).drewN nq
  have hwl : w.heap.size < ((w.alloc (.cells #[.int .i64 0, .int .i64 0] 29)).drewN nq).heap.size := hrb.lt
  obtain ⟨W, hW⟩ : ∃ W, (w.alloc (.cells #[.int .i64 0, .int .i64 0] 29)).drewN nq = W := ⟨_, rfl⟩
  rw [hW] at hs0 hrb hwl ⊢
  clear hW
  obtain ⟨rb, hrbe⟩ : ∃ rb, w.heap.size = rb := ⟨_, rfl⟩
  rw [hrbe] at hrb ⊢
  clear c0 c1 c4 hsl
  have b1 := H.out.2.2.2.1.no hs0
  have c1 := b1.at 1 (v := .slice Au l.length cu) rfl
  have hsl := b1.lt
  have H0 := Lib.hid (And.intro hs0 (And.intro hrb (And.intro hrbe hwl)))
  clear hs0 hrb hrbe hwl b1
  go_loop [6] (fun i => PutRel l i) (fun i => l.length - (intOf i).toNat)
  case atStart => exact ⟨0, Nat.zero_le _, rfl⟩
  case round =>
    obtain ⟨k, hk, rfl⟩ := hrel
    by_cases hlt : k < freeI l
    · obtain ⟨x, hx, hu⟩ := freeI_used l k hlt
      have k1 : (0 : Int) ≤ (k : Int) := by omega
      have k2 : (k : Int) < (l.length : Int) := by omega
      obtain ⟨bb, off, hA, _, r1⟩ := (H.out.2.1.no H0.out.1).at (uL_at hx).1
      rw [hu] at r1
      subst hA
      clear hx hu
      go_wp2_with fail
      go_round
      case rel => exact ⟨k + 1, by omega, by go_num⟩
      case measure => simp [intOf]; omega
    · obtain rfl : k = freeI l := by omega
      obtain ⟨i, hi⟩ : ∃ i, freeI l = i := ⟨_, rfl⟩
      rw [hi] at hfl ⊢
      have HI := Lib.hid hi
      by_cases hlen : i < l.length
      · rw [← hi] at hlen
        obtain ⟨x, hx, hu⟩ := freeI_free l hlen
        rw [hi] at hx hlen
        have k1 : (0 : Int) ≤ (i : Int) := by omega
        have k2 : (i : Int) < (l.length : Int) := by omega
        have h3 : ((i : Int) == (l.length : Int)) = false := by simp; omega
        have h4 : decide (i = l.length) = false := by simp; omega
        obtain ⟨e0, e1, e2⟩ := uL_at hx
        have hu2 := own_row_sm H.out.2.2.2.2.1 H0.out.1 (fun _ _ h => h)
        have hg2 := own_row_sm H.out.2.2.2.2.2.1 H0.out.1 (fun _ _ h => h)
        have hv2 := own_row_sm H.out.2.2.2.2.2.2.1 H0.out.1 (fun _ _ h => h)
        have hb2 := H.out.2.2.2.1.no H0.out.1
        have hap2 := H.out.2.2.2.2.2.2.2.1
        have hO2 := H.out.2.2.2.2.2.2.2.2.2.1
        rcases own_row_form hu2 with ⟨_, e9, _⟩ | ⟨bu, cu2, q, _, _, hbul, _, ucell, uf⟩
        · omega
        injection q with q1 _ q2
        subst q1 q2
        rcases own_row_form hg2 with ⟨_, e9, _⟩ | ⟨bg, cg, rfl, _, _, hbgl, _, gcell, gf⟩
        · omega
        rcases own_row_form hv2 with ⟨_, e9, _⟩ | ⟨bv, cv, rfl, _, _, hbvl, _, vcell, vf⟩
        · omega
        have r0 := ucell i _ e0
        rw [hu] at r0
        have r1 := gcell i _ e1
        have r2 := vcell i _ e2
        have f0 := uf i
        have f1 := gf i
        have f2 := vf i
        have c2 := hb2.at 2 (v := .slice (some ⟨bg, 0, none⟩) l.length cg) rfl
        have c3 := hb2.at 3 (v := .slice (some ⟨bv, 0, none⟩) l.length cv) rfl
        have c4 := hb2.at 4 (v := .int .i64 un) (by rw [← HUN.out]; rfl)
        have f4 := hb2.fz 4
        have f5 := H0.out.2.1.fz 0
        have f6 := H0.out.2.1.fz 1
        have d0 := H0.out.2.1.at 0 (v := .int .i64 0) rfl
        have d1 := H0.out.2.1.at 1 (v := .int .i64 0) rfl
        have hrl := H0.out.2.1.lt
        have ou := hO2 bu (Or.inl rfl)
        have og := hO2 bg (Or.inr (Or.inl rfl))
        have ov := hO2 bv (Or.inr (Or.inr rfl))
        have os := H.out.2.2.2.2.2.2.2.2.1
        have hlt2 := H.out.2.2.2.2.2.2.2.2.2.2
        have hrw := H0.out.2.2.1
        have n1 : bu ≠ s := fun e => row_not_bk hu2 hb2 (by decide) (by rw [← e]; rfl)
        have n2 : bg ≠ s := fun e => row_not_bk hg2 hb2 (by decide) (by rw [← e]; rfl)
        have n3 : bv ≠ s := fun e => row_not_bk hv2 hb2 (by decide) (by rw [← e]; rfl)
        have n4 : bu ≠ bg := fun e => row_not_row hu2 hg2 (by decide) (g := bu) rfl (by rw [e]; rfl)
        have n5 : bu ≠ bv := fun e => row_not_row hu2 hv2 (by decide) (g := bu) rfl (by rw [e]; rfl)
        have n6 : bg ≠ bv := fun e => hap2 bg rfl (by rw [e]; rfl)
        have m1 : rb ≠ s := fun e => by have := hlt2 s os; omega
        have m2 : rb ≠ bu := fun e => by have := hlt2 bu ou; omega
        have m3 : rb ≠ bg := fun e => by have := hlt2 bg og; omega
        have m4 : rb ≠ bv := fun e => by have := hlt2 bv ov; omega
        have hxg := H.out.2.2.1 x (List.mem_of_getElem? hx)
        obtain ⟨xg, hxge⟩ : ∃ xg, x.g = xg := ⟨_, rfl⟩
        rw [hxge] at r1 hxg
        have hpb : putB l v = l.set i ⟨x.g + 1, true, v⟩ := by unfold putB; rw [hi, if_pos hlen]; simp [genAt, hx]
        have hnh : newH l = ⟨(i : Int), ((x.g + 1 : Nat) : Int)⟩ := by unfold newH; rw [hi]; simp [genAt, hx]
        have HX := Lib.hid (And.intro hpb (And.intro hnh (And.intro hx (And.intro hu (And.intro hxge (And.intro hb2 (And.intro hu2 (And.intro hg2 (And.intro hv2 (And.intro ou (And.intro og (And.intro ov os))))))))))))
        clear hi hk hlt hpb hnh hx hu e0 e1 e2 hxge hb2 hu2 hg2 hv2 ucell gcell vcell uf gf vf hap2 hO2 ou og ov os
        go_wp2_with fail
        refine bodyPost_ret (v := .tuple #[.agg #[.int .i64 i, .int .i64 ((xg : Int) + 1)], .int .i64 0]) (by simp [results, Try.results41, go_sem, d0, d1]) rfl ⟨?_, ?_⟩
        · rw [HX.out.2.1, HX.out.2.2.2.2.1]; rfl
        · obtain ⟨g1, g2, g3, g4, g5, g6, g7, g8, g9, g10, g11, g12, g13⟩ := HX.out
          obtain ⟨p1, p2⟩ := rput_done (y0 := .int .i64 i) (y1 := .int .i64 ((xg : Int) + 1)) (v := v) g6 g7 g8 g9 n6 n1 n2 n3 n4 n5 m1 m2 m3 m4 g3 g4 g13 g10 g11 g12 (fun b h => Nat.lt_of_lt_of_le (hlt2 b h) H0.out.1.size) rfl
          rw [g5, HUN.out] at p1 p2
          rw [g1, g5]
          refine ⟨O, p1, ((H0.out.1.any _).trans p2 (fun b _ e => e)).mono (fun b hb e => e.elim id (fun e => by omega)), fun b h => Or.inl h⟩
      · obtain rfl : i = l.length := by omega
        have h3 : ((l.length : Int) == (l.length : Int)) = true := by simp
        have hr3 : rb ≠ s := fun e => by have := H.out.2.2.2.2.2.2.2.2.2.2 s H.out.2.2.2.2.2.2.2.2.1; have := H0.out.2.2.1; omega
        have P0 : PS w W O s rb (.slice Au l.length cu) gv vv l.length l.length l.length (usedN l) (uL l) (gL l) (vL l) := ⟨H.out.2.2.2.1.no H0.out.1, H0.out.2.1, hr3, own_row_sm H.out.2.2.2.2.1 H0.out.1 (fun _ _ h => h), own_row_sm H.out.2.2.2.2.2.1 H0.out.1 (fun _ _ h => h), own_row_sm H.out.2.2.2.2.2.2.1 H0.out.1 (fun _ _ h => h), H.out.2.2.2.2.2.2.2.1, H.out.2.2.2.2.2.2.2.2.1, fun b e => Or.inl (H.out.2.2.2.2.2.2.2.2.2.1 b e), H0.out.1.any _⟩
        obtain ⟨Ag, cg, rfl, _⟩ := own_rowC P0.g
        obtain ⟨Av, cv, rfl, _⟩ := own_rowC P0.v
        have f1s := P0.bk.fz 1
        have HN := Lib.hid hi
        have HP0 := Lib.hid (P0.no ((Sm.refl No W).alloc (.cells #[.bool false] 4)))
        clear hi hlt hk hlen P0
        go_wp2_with (first | (refine wpList_push rfl (.tmp 46) (.tmp 47) 101 4 rfl Try.underlying101 _ 1 1 infoBo rfl (by decide) (by decide) 0 l.length _ (uL l) rfl HP0.out.u W.heap.size #[.bool false] rfl (Bk.new W _ _) rfl (by simp [Value.oneCell']) (by omega) (Nat.zero_le _) ?_; intro v5 w5 hown5 hs5 hv5; obtain ⟨g5, cap5, rfl, hg5, hc5⟩ := own_row_pos hown5; have b5 := HP0.out.bk.sm hs5 (row_not_bk HP0.out.u HP0.out.bk (by decide)); have c2 := b5.at 2 (v := .slice Ag l.length cg) rfl; have f5 := b5.fz 1; have e5 := b5.at 1 (v := .slice Au l.length cu) rfl; have l5 := b5.lt; have HP5 := Lib.hid ((HP0.out.pushU hown5 hs5 hv5).no ((Sm.refl No _).alloc (.cells #[.int .i64 0] 3))); refine RowKit.Hid.out ?_) | fail)
        refine Lib.hid ?_
        go_wp2_with (first | (refine wpList_push rfl (.tmp 55) (.tmp 56) 22 3 rfl Try.underlying22 _ 1 8 infoInt rfl (by decide) (by decide) 0 l.length _ (gL l) rfl HP5.out.g w5.heap.size #[.int .i64 0] rfl (Bk.newAt _ _ _ (by simp)) rfl (by simp [Value.oneCell']) (by omega) (Nat.zero_le _) ?_; intro v6 w6 hown6 hs6 hv6; obtain ⟨g6, cap6, rfl, hg6, hc6⟩ := own_row_pos hown6; have b6 := HP5.out.bk.sm hs6 (row_not_bk HP5.out.g HP5.out.bk (by decide)); have c3 := b6.at 3 (v := .slice Av l.length cv) rfl; have f6 := b6.fz 2; have e6 := b6.at 2 (v := .slice Ag l.length cg) rfl; have l6 := b6.lt; have HP6 := Lib.hid ((HP5.out.pushG hown6 hs6 hv6).no ((Sm.refl No _).alloc (.cells #[.int .i64 0] 3))); refine RowKit.Hid.out ?_) | fail)
        refine Lib.hid ?_
        go_wp2_with (first | (refine wpList_push rfl (.tmp 64) (.tmp 65) 22 3 rfl Try.underlying22 _ 1 8 infoInt rfl (by decide) (by decide) 0 l.length _ (vL l) rfl HP6.out.v w6.heap.size #[.int .i64 0] rfl (Bk.newAt _ _ _ (by simp)) rfl (by simp [Value.oneCell']) (by omega) (Nat.zero_le _) ?_; intro v7 w7 hown7 hs7 hv7; obtain ⟨g7, cap7, rfl, hg7, hc7⟩ := own_row_pos hown7; have b7 := HP6.out.bk.sm hs7 (row_not_bk HP6.out.v HP6.out.bk (by decide)); have u7 := own_row_sm HP6.out.u hs7 (fun b e1 e2 => row_not_row HP6.out.u HP6.out.v (by decide) e1 e2); have g7r := own_row_sm HP6.out.g hs7 (fun b e1 e2 => HP6.out.ap b e1 e2); have hb7 := HP6.out.hb.sm hs7 (row_not_bk HP6.out.v HP6.out.hb (by decide)); obtain ⟨⟨n1, n2, n3⟩, ⟨n4, n5⟩, ⟨m2, m3, m4⟩, r1, r0, r2, q0, q1, q2⟩ := put_facts b7 hb7 u7 g7r hown7; have k1s := b7.at 1 (v := .slice (some ⟨g5, 0, none⟩) (l.length + 1) cap5) rfl; have c2' := b7.at 2 (v := .slice (some ⟨g6, 0, none⟩) (l.length + 1) cap6) rfl; have c4 := b7.at 4 (v := .int .i64 un) (by rw [← HUN.out]; rfl); have f7 := b7.fz 3; have e7 := b7.at 3 (v := .slice Av l.length cv) rfl; have f74 := b7.fz 4; have l7 := b7.lt; have d0 := hb7.at 0 (v := .int .i64 0) rfl; have d1 := hb7.at 1 (v := .int .i64 0) rfl; have fd0 := hb7.fz 0; have fd1 := hb7.fz 1; have hbl := hb7.lt; have lu := own_row_lt u7 (g := g5) rfl; have lg := own_row_lt g7r (g := g6) rfl; have P7 := HP6.out.pushV hown7 hs7 hv7; have n6 : g6 ≠ g7 := fun e => P7.ap g6 rfl (by rw [e]; rfl); have HP7 := Lib.hid P7; refine RowKit.Hid.out ?_) | fail)
        refine Lib.hid ?_
        have hgs : newH l = ⟨(l.length : Int), 1⟩ := by unfold newH; rw [HN.out]; simp [genAt]
        have hpb : putB l v = (l ++ [(⟨0, false, 0⟩ : Sl)]).set l.length ⟨0 + 1, true, v⟩ := by unfold putB; rw [HN.out, if_neg (Nat.lt_irrefl _)]; simp
        have HG := Lib.hid (And.intro hgs hpb)
        have HA := Lib.hid (And.intro n1 (And.intro n2 (And.intro n3 (And.intro n4 (And.intro n5 (And.intro n6 (And.intro m2 (And.intro m3 m4))))))))
        clear hgs hpb c1 hsl h3 f1s
        clear b5 hown5 hs5 hv5 hg5 c2 e5 f5 l5 HP5 b6 hown6 hs6 hv6 hg6 c3 e6 f6 l6
        clear b7 u7 g7r P7 hown7 hs7 hv7
        go_wp2_with fail
        refine bodyPost_ret (v := .tuple #[.agg #[.int .i64 l.length, .int .i64 1], .int .i64 0]) (by simp [results, Try.results41, go_sem, d0, d1]) rfl ⟨?_, ?_⟩
        · rw [HG.out.1]; rfl
        · have hL : (l ++ [(⟨0, false, 0⟩ : Sl)]).length = l.length + 1 := by simp
          obtain ⟨t1, t2, t3⟩ := rows_snoc l
          obtain ⟨a1, a2, a3, a4, a5, a6, a7, a8, a9⟩ := HA.out
          have PP := HP7.out
          have hfr : ∀ b, ((Value.slice (some ⟨g5, 0, none⟩) (l.length + 1) cap5).ownBlock = some b ∨ (Value.slice (some ⟨g6, 0, none⟩) (l.length + 1) cap6).ownBlock = some b ∨ (Value.slice (some ⟨g7, 0, none⟩) (l.length + 1) cap7).ownBlock = some b) → b < w7.heap.size → O b ∨ w.heap.size ≤ b ∧ b < w7.heap.size := fun b e hb => (PP.fr b e).imp id (fun h => ⟨h, hb⟩)
          obtain ⟨p1, p2⟩ := rput_done (O1 := fun b => O b ∨ w.heap.size ≤ b ∧ b < w7.heap.size) (L := l ++ [(⟨0, false, 0⟩ : Sl)]) (i := l.length) (x := ⟨0, false, 0⟩) (y0 := .int .i64 l.length) (y1 := .int .i64 1) (v := v) (by rw [hL, usedN_snoc]; exact PP.bk) (by rw [hL, t1]; exact PP.u) (by rw [hL, t2]; exact PP.g) (by rw [hL, t3]; exact PP.v) a6 a1 a2 a3 a4 a5 PP.ne a7 a8 a9 (by simp) rfl (Or.inl PP.os) (hfr g5 (Or.inl rfl) lu) (hfr g6 (Or.inr (Or.inl rfl)) lg) (hfr g7 (Or.inr (Or.inr rfl)) hg7) (fun b hb => by
            have h1 := PP.sm.size
            simp at h1 ⊢
            rcases hb with hb | hb
            · have := H.out.2.2.2.2.2.2.2.2.2.2 b hb; omega
            · exact hb.2) rfl
          rw [usedN_snoc, HUN.out] at p1 p2
          rw [HG.out.2]
          refine ⟨_, p1, PP.sm.trans p2 (fun b hb e => ?_), fun b e => e.imp id (fun h => h.1)⟩
          have := H0.out.2.2.1
          rcases e with (e | e) | e
          · exact e
          · omega
          · omega
end Go.Proofs.Ytgmgjkafdkgalaa
