/- The document's Router: Match. -/
import Derived.Test.YtiglfbimijnpcaaGreatDoorQTwinE
import Derived.Test.YtiglfbimijnpcaaGreatDoorQTwinF
import Derived.Test.YtiglfbimijnpcaaGreatDoorQRoutG
namespace Go.Proofs.YtiglfbimijnpcaaGreatDoor
open Go.RowKit Go.Proofs
variable {tt : TypeId} {tl : List Value}

theorem findP_wide {L : List Lt} {path : Txt} {k : Bool × Txt} {rest : Txt} (h : findP L path = some (k, rest)) : (patOf k).length - 1 ≤ path.length := by
  unfold findP at h
  split at h
  · cases hd : downP L path path.length with
    | none => rw [hd] at h; cases h
    | some i =>
      rw [hd] at h
      simp only [Option.map_some, Option.some.injEq, Prod.mk.injEq] at h
      rw [← h.1]
      simp [patOf]; omega
  · injection h with h
    rw [← (Prod.mk.inj h).1]
    simp [patOf]
theorem layL_len (l : List Txt) (s : Txt) : (layL l s).length ≤ l.length + 1 := by
  induction l with
  | nil => simp [layL]
  | cons x r ih =>
    rw [layL]
    split
    · simp; omega
    · split <;> simp
theorem lays_len (m l : List Txt) : (m.foldl layL l).length ≤ l.length + m.length := by
  induction m generalizing l with
  | nil => simp
  | cons s m ih =>
    have := ih (layL l s)
    have := layL_len l s
    simp; omega
theorem txt_size_drop (q : ByteArray) (f : Nat) : txt (q.extract f q.size) = (txt q).drop f := by rw [txt_extract, List.take_of_length_le (by rw [txt_len]; exact Nat.le_refl _)]
def accT (L : List Lt) (p : Txt) (i : Nat) : List Txt := (msL ((L.take i).filter (fun x => x.pat == p))).foldl layL []
theorem accT_len {L : List Lt} {p : Txt} {i : Nat} (hL : L.length ≤ 64) (h : ∀ x ∈ L, x.ms.length ≤ 4000) : (accT L p i).length ≤ 256000 := by
  unfold accT
  have h1 := lays_len (msL ((L.take i).filter (fun x => x.pat == p))) []
  have h2 := msL_le ((L.take i).filter (fun x => x.pat == p)) (fun x hx => h x (List.mem_of_mem_take (List.mem_filter.1 hx).1))
  have h3 : ((L.take i).filter (fun x => x.pat == p)).length ≤ 64 := Nat.le_trans (List.length_filter_le _ _) (by simp; omega)
  have : ((L.take i).filter (fun x => x.pat == p)).length * 4000 ≤ 64 * 4000 := Nat.mul_le_mul h3 (Nat.le_refl _)
  simp at h1
  omega
theorem accT_hit {L : List Lt} {p : Txt} {i : Nat} (h : i < L.length) (hp : L[i].pat = p) : accT L p (i + 1) = L[i].ms.foldl layL (accT L p i) := by
  unfold accT
  rw [List.take_succ_eq_append_getElem h, List.filter_append, List.filter_cons_of_pos (by simp [hp]), List.filter_nil, msL, List.flatMap_append, List.foldl_append]
  simp [msL]
theorem accT_miss {L : List Lt} {p : Txt} {i : Nat} (h : i < L.length) (hp : L[i].pat ≠ p) : accT L p (i + 1) = accT L p i := by
  unfold accT
  rw [List.take_succ_eq_append_getElem h, List.filter_append, List.filter_cons_of_neg (by simp [hp]), List.filter_nil, List.append_nil]
def GmRel (w : World) (L : List Lt) (p : Txt) (v iv : Value) (wr : World) : Prop :=
  ∃ i : Nat, i ≤ L.length ∧ iv = .int .i64 i ∧ OwnT wr w.heap.size v (accT L p i) ∧ Sm No w wr
def GjRel (w : World) (ms acc : List Txt) (v iv : Value) (wr : World) : Prop :=
  ∃ j : Nat, j ≤ ms.length ∧ iv = .int .i64 j ∧ OwnT wr w.heap.size v ((ms.take j).foldl layL acc) ∧ Sm No w wr

set_option maxRecDepth 100000 in
set_option maxHeartbeats 4000000 in
theorem rmatch_any (w : World) (O : Nat → Prop) (r : Nat) (L : List Lt) (m path : ByteArray) (h : IsTwin tt tl w O r L) (hL : L.length ≤ 64) (hLp : ∀ x ∈ L, x.pat.length ≤ 1000) (hms : ∀ x ∈ L, x.ms.length ≤ 4000) (hp : path.size ≤ 1000000) :
    Calls Tryz.prog 50 #[.pointer (some ⟨r, 0, none⟩), .string m, .string path] w (MatchPost w L (txt m) (txt path)) := by
  have HF := Lib.hid (rfind_any w O r L path h hLp hL hp)
  have HI := Lib.hid (And.intro h (And.intro hms hLp))
  have hfs := find_same L (txt path)
  obtain ⟨FA, hFA⟩ : ∃ FA, findA (txt path) [] false L = FA := ⟨_, rfl⟩
  rw [hFA] at HF hfs
  clear h hms hFA
  rcases hfs with ⟨hf, h2⟩ | ⟨k, rest, hf, rfl, hsel, hne, hrest⟩
  · obtain ⟨p, ok⟩ := FA
    obtain rfl : ok = false := h2
    obtain ⟨pb, hpb⟩ : ∃ pb : ByteArray, strB p = .string pb := ⟨_, rfl⟩
    rw [show strB (p, false).1 = .string pb from hpb] at HF
    have hc : matchL L (txt m) (txt path) = (0, [], [], 404) := by unfold matchL; rw [hf]
    have HC := Lib.hid hc
    clear hf hc hpb
    go_enter Tryz.func50, Tryz.ntmps50
    go_wp2_with fail
    refine HF.out.mono ?_
    rintro e w1 ⟨rfl, hs1⟩
    have HE := Lib.hid (MatchPost.of HC.out (World.ownsRow_nil _ _ _ 1 : OwnT w1 w.heap.size (.slice none 0 0) []) hs1)
    clear hs1
    go_wp2_with fail
    exact bodyPost_ret (v := .tuple #[.int .i64 0, .string ⟨#[]⟩, .slice none 0 0, .int .i64 404]) (by simp [results, Tryz.results50, go_sem]) rfl HE.out
  · obtain ⟨pb, hpb1, hpb2⟩ : ∃ pb : ByteArray, strB (patOf k) = .string pb ∧ txt pb = patOf k := ⟨⟨(patOf k).toArray⟩, rfl, txt_mk _⟩
    rw [show strB (patOf k, true).1 = .string pb from hpb1] at HF
    have hwp := findP_wide hf
    have hplen : (patOf k).length ≤ 1000 := by
      obtain ⟨x, hx⟩ := List.exists_mem_of_ne_nil _ hne
      rw [hsel] at hx
      have hx2 := List.mem_filter.1 hx
      have e : x.pat = patOf k := by simpa using hx2.2
      rw [← e]; exact hLp x hx2.1
    rw [← hpb2, txt_len] at hwp hplen
    rw [txt_len] at hwp
    rw [← hpb2] at hsel hrest
    rw [txt_len] at hrest
    have hmt : ∀ i, pickL (sel L k) (txt m) = some i → matchL L (txt m) (txt path) = (i, rest, [], 200) := fun i e => by unfold matchL; rw [hf]; simp only [e]
    have hmn : pickL (sel L k) (txt m) = none → matchL L (txt m) (txt path) = (0, [], allowP (sel L k), 405) := fun e => by unfold matchL; rw [hf]; simp only [e]
    have hof : ∀ q : Txt, ofT (txt pb) L q = ofL (sel L k) q := fun q => by rw [of_same, hsel]
    have hall : accT L (txt pb) L.length = (msL (sel L k)).foldl layL [] := by unfold accT; rw [List.take_length, hsel]
    obtain ⟨S, hS⟩ : ∃ S, sel L k = S := ⟨_, rfl⟩
    rw [hS] at hmt hmn hall
    simp only [hS] at hof
    have HK := Lib.hid (And.intro hof (And.intro hmt (And.intro hmn (And.intro hall hrest))))
    obtain ⟨wd, hwd⟩ : ∃ wd, wideL (txt pb) = wd := ⟨_, rfl⟩
    have HW := Lib.hid hwd
    clear hf hne hsel hS hof hmt hmn hall hrest hwd hpb1 hpb2 hLp
    obtain ⟨P, hP⟩ : ∃ P, ofL S (txt m) = P := ⟨_, rfl⟩
    have HO := Lib.hid (fun (W : World) (hs : Sm No w W) => rof_any W O r L pb m (HI.out.1.no hs) hL HI.out.2.1)
    rw [HK.out.1, hP] at HO
    have HPk := Lib.hid hP
    clear hP
    go_enter Tryz.func50, Tryz.ntmps50
    go_wp2_with fail
    refine HF.out.mono ?_
    rintro e w1 ⟨rfl, hs1⟩
    have H1 := Lib.hid hs1
    clear hs1
    go_wp2_with fail
    refine (HO.out w1 H1.out).mono ?_
    rintro e w2 ⟨rfl, hs2⟩
    have H2 := Lib.hid (H1.out.trans hs2 (fun _ _ h => h))
    clear hs2
    cases P with
    | some i =>
      have hc := HK.out.2.1 i (by unfold pickL; rw [HPk.out])
      have HC := Lib.hid hc
      clear hc
      unfold ofV
      go_wp2_with fail
      refine (wide_say HW (by omega) w2).mono ?_
      rintro e w9 ⟨rfl, rfl⟩
      cases wd
      · have hr0 : rest = [] := HK.out.2.2.2.2.trans (by rw [HW.out]; rfl)
        have HE := Lib.hid (MatchPost.of (w := w) (w' := w2) (v := .slice none 0 0) (al := []) (rest := []) (i := i) (st := 200) (HC.out.trans (by rw [hr0])) (World.ownsRow_nil _ _ _ 1) H2.out)
        clear hr0
        go_wp2_with fail
        exact bodyPost_ret (v := .tuple #[.int .i64 i, .string ⟨#[]⟩, .slice none 0 0, .int .i64 200]) (by simp [results, Tryz.results50, go_sem]) rfl HE.out
      · have hr0 : rest = (txt path).drop (pb.size - 1) := HK.out.2.2.2.2.trans (by rw [HW.out]; rfl)
        have hb2 : 2 ≤ pb.size := by
          obtain ⟨q, hq⟩ := (wide_iff _).1 HW.out
          rw [← txt_len, hq]; simp
        have hr1 : strB rest = .string (path.extract (pb.size - 1) path.size) := by
          rw [hr0, ← txt_size_drop path (pb.size - 1), strB_txt]
        have k3 : (((pb.size : Int) - 1).toNat) = pb.size - 1 := by omega
        have p1 : (1 : Int) ≤ (pb.size : Int) := by omega
        have p2 : (pb.size : Int) - 1 ≤ (path.size : Int) := by omega
        have HE := Lib.hid (fun n => MatchPost.of HC.out (World.ownsRow_nil _ _ _ 1 : OwnT (w2.drewN n) w.heap.size (.slice none 0 0) []) (H2.out.drewN n))
        rw [hr1] at HE
        clear hr0 hr1
        go_wp2_with fail
        go_quiet (fail)
        go_wp2_with fail
        exact bodyPost_ret (v := .tuple #[.int .i64 i, .string (path.extract (pb.size - 1) path.size), .slice none 0 0, .int .i64 200]) (by simp [results, Tryz.results50, go_sem]) rfl (HE.out _)
    | none =>
      by_cases hm : m.toList = [72, 69, 65, 68]
      · obtain ⟨P2, hP2⟩ : ∃ P, ofL S GET = P := ⟨_, rfl⟩
        have hpk : pickL S (txt m) = P2 := by
          unfold pickL
          rw [HPk.out, ← hP2]
          simp only
          rw [if_pos ((bytes_eq_iff m HEAD).1 hm)]
        have HO2 := Lib.hid (fun (W : World) (hs : Sm No w W) => rof_any W O r L pb ⟨#[71, 69, 84]⟩ (HI.out.1.no hs) hL HI.out.2.1)
        rw [show txt (⟨#[71, 69, 84]⟩ : ByteArray) = GET from rfl, HK.out.1, hP2] at HO2
        have HP2 := Lib.hid hpk
        clear hpk hP2
        unfold ofV
        go_wp2_with fail
        refine (HO2.out w2 H2.out).mono ?_
        rintro e w3 ⟨rfl, hs3⟩
        have H3 := Lib.hid (H2.out.trans hs3 (fun _ _ h => h))
        clear hs3
        cases P2 with
        | some i =>
          have hc := HK.out.2.1 i HP2.out
          have HC := Lib.hid hc
          clear hc
          unfold ofV
          go_wp2_with fail
          refine (wide_say HW (by omega) w3).mono ?_
          rintro e w9 ⟨rfl, rfl⟩
          cases wd
          · have hr0 : rest = [] := HK.out.2.2.2.2.trans (by rw [HW.out]; rfl)
            have HE := Lib.hid (MatchPost.of (w := w) (w' := w3) (v := .slice none 0 0) (al := []) (rest := []) (i := i) (st := 200) (HC.out.trans (by rw [hr0])) (World.ownsRow_nil _ _ _ 1) H3.out)
            clear hr0
            go_wp2_with fail
            exact bodyPost_ret (v := .tuple #[.int .i64 i, .string ⟨#[]⟩, .slice none 0 0, .int .i64 200]) (by simp [results, Tryz.results50, go_sem]) rfl HE.out
          · have hr0 : rest = (txt path).drop (pb.size - 1) := HK.out.2.2.2.2.trans (by rw [HW.out]; rfl)
            have hb2 : 2 ≤ pb.size := by
              obtain ⟨q, hq⟩ := (wide_iff _).1 HW.out
              rw [← txt_len, hq]; simp
            have hr1 : strB rest = .string (path.extract (pb.size - 1) path.size) := by
              rw [hr0, ← txt_size_drop path (pb.size - 1), strB_txt]
            have k3 : (((pb.size : Int) - 1).toNat) = pb.size - 1 := by omega
            have p1 : (1 : Int) ≤ (pb.size : Int) := by omega
            have p2 : (pb.size : Int) - 1 ≤ (path.size : Int) := by omega
            have HE := Lib.hid (fun n => MatchPost.of HC.out (World.ownsRow_nil _ _ _ 1 : OwnT (w3.drewN n) w.heap.size (.slice none 0 0) []) (H3.out.drewN n))
            rw [hr1] at HE
            clear hr0 hr1
            go_wp2_with fail
            go_quiet (fail)
            go_wp2_with fail
            exact bodyPost_ret (v := .tuple #[.int .i64 i, .string (path.extract (pb.size - 1) path.size), .slice none 0 0, .int .i64 200]) (by simp [results, Tryz.results50, go_sem]) rfl (HE.out _)
        | none =>
          unfold ofV
          go_wp2_with fail
          have hc := HK.out.2.2.1 HP2.out
          have HC := Lib.hid hc
          clear hc
          go_loopw [13, 14] (fun v i wr => GmRel w L (txt pb) v i wr) (fun _ i _ => L.length - (intOf i).toNat)
          case atStart => exact ⟨0, Nat.zero_le _, rfl, World.ownsRow_nil _ _ _ 1, H3.out⟩
          case round =>
            obtain ⟨i, hi, rfl, hO, hsm⟩ := hrel
            obtain ⟨vT, lT, hT0⟩ := HI.out.1
            obtain ⟨AL, cL, rfl⟩ := hT0.form
            have hT := hT0.no hsm
            have c0 := hT.1.at 0 (v := .slice AL L.length cL) rfl
            have hal := accT_len (p := txt pb) (i := i) hL HI.out.2.1
            obtain ⟨Av, cv, rfl, _, _, _⟩ := own_rowC hO
            have HS := Lib.hid (And.intro hO hsm)
            have HT0 := Lib.hid hT0
            clear hO hsm hT0
            by_cases hlt : i < L.length
            · obtain ⟨g, A2, c2, hAe, r0, r1, r2, hR2, _⟩ := hT.get hlt
              subst hAe
              have hml := HI.out.2.1 _ (List.getElem_mem hlt)
              have hhit := accT_hit (p := txt pb) hlt
              have hmiss := accT_miss (p := txt pb) hlt
              have hget := fun (W : World) (hW : Sm No w W) => (HT0.out.no hW).get hlt
              obtain ⟨y, hy⟩ : ∃ y, L[i].pat = y := ⟨_, rfl⟩
              obtain ⟨ym, hym⟩ : ∃ y, L[i].ms = y := ⟨_, rfl⟩
              rw [hy] at r0 hhit hmiss
              rw [hym] at r2 hR2 hhit hml
              simp only [hy, hym] at hget
              obtain ⟨yb, e1, e2⟩ : ∃ yb : ByteArray, strB y = .string yb ∧ txt yb = y := ⟨⟨y.toArray⟩, rfl, txt_mk _⟩
              simp only [e1] at r0 hget
              subst e2
              have HX := Lib.hid (And.intro hget (And.intro hhit hmiss))
              have k1 : (0 : Int) ≤ (i : Int) := by omega
              have k2 : (i : Int) < (L.length : Int) := by omega
              obtain ⟨acc, hacc⟩ : ∃ acc, accT L (txt pb) i = acc := ⟨_, rfl⟩
              rw [hacc] at HS HX hal ⊢
              clear hT hy hym e1 hget hhit hmiss hR2 hacc r0 r1 r2
              go_wp2_with fail
              obtain ⟨wo, hwo⟩ : ∃ wo : World, wo = wr := ⟨_, rfl⟩
              rw [← hwo] at HS
              have HWo := Lib.hid hwo
              clear c0
              by_cases hpp : txt yb = txt pb
              · obtain rfl : pb = yb := by rw [← mk_txt yb, ← mk_txt pb, hpp]
                clear hpp
                go_loopw [13, 15] (fun v j wr => GjRel w ym acc v j wr) (fun _ j _ => ym.length - (intOf j).toNat)
                case atStart => exact ⟨0, Nat.zero_le _, rfl, HWo.out ▸ HS.out.1, HWo.out ▸ HS.out.2⟩
                case round =>
                  obtain ⟨j, hj, rfl, hO, hsm⟩ := hrel
                  have hjl := lays_len (ym.take j) acc
                  have hjm : (ym.take j).length ≤ 4000 := by simp; omega
                  have c0 := (HT0.out.no hsm).1.at 0 (v := .slice (some ⟨g, 0, none⟩) L.length cL) rfl
                  obtain ⟨g', A3, c3, hg, q0, q1, q2, hR3, _⟩ := HX.out.1 wr hsm
                  obtain rfl : g = g' := by simpa using hg
                  obtain ⟨Aw, cw, rfl, _, _, _⟩ := own_rowC hO
                  have HY := Lib.hid (And.intro hO (And.intro hsm hR3))
                  clear hO hsm hg hR3
                  have j1 : (0 : Int) ≤ (j : Int) := by omega
                  by_cases hlt2 : j < ym.length
                  · obtain ⟨bb, off, hAe, hbb, q3⟩ := HY.out.2.2.at (strV_at hlt2)
                    subst hAe
                    obtain ⟨t, ht⟩ : ∃ t : ByteArray, (⟨ym[j].toArray⟩ : ByteArray) = t := ⟨_, rfl⟩
                    have hts : txt t = ym[j] := by rw [← ht, txt_mk]
                    rw [ht] at q3
                    have hst : (ym.take (j + 1)).foldl layL acc = layL ((ym.take j).foldl layL acc) (txt t) := by rw [List.take_succ_eq_append_getElem hlt2, List.foldl_append, hts]; rfl
                    have HL := Lib.hid (lay_any wr w.heap.size (.slice Aw ((ym.take j).foldl layL acc).length cw) _ t HY.out.1 HY.out.2.1.size (by omega))
                    have HSt := Lib.hid hst
                    have j2 : (j : Int) < (ym.length : Int) := by omega
                    clear ht hts hst
                    go_wp2_with fail
                    refine HL.out.mono ?_
                    rintro e w5 ⟨v5, rfl, hO5, hs5⟩
                    have H5 := Lib.hid (And.intro hO5 (HY.out.2.1.trans hs5 (fun _ _ h => h)))
                    clear hO5 hs5
                    go_wp2_with fail
                    exact ⟨⟨j + 1, by omega, by go_num, by rw [HSt.out]; exact H5.out.1, H5.out.2⟩, by simp [intOf]; omega⟩
                  · have hfin : OwnT wr w.heap.size (.slice Aw ((ym.take j).foldl layL acc).length cw) (accT L (txt pb) (i + 1)) := by
                      rw [HX.out.2.1 rfl]
                      have e : ym.take j = ym := List.take_of_length_le (by omega)
                      have hO := HY.out.1
                      rw [e] at hO ⊢
                      exact hO
                    have HFi := Lib.hid hfin
                    clear hfin
                    go_wp2_with fail
                    exact ⟨⟨i + 1, by omega, by go_num, HFi.out, HY.out.2.1⟩, by simp [intOf]; omega⟩
              · have e3 : ¬ yb.toList = pb.toList := fun e => hpp ((bytes_eq_iff yb (txt pb)).1 (e.trans ((bytes_eq_iff pb (txt pb)).2 rfl)))
                have e4 : (yb.toList == pb.toList) = false := by simpa using e3
                have HM := Lib.hid (HX.out.2.2 hpp)
                clear hpp
                rw [HWo.out] at HS
                go_loopw [13, 15] (fun v j wr' => v = .slice Av acc.length cv ∧ j = .int .i64 0 ∧ wr' = wr) (fun _ _ _ => 0)
                case atStart => exact ⟨rfl, rfl, rfl⟩
                case round =>
                  obtain ⟨rfl, rfl, rfl⟩ := hrel
                  have c0 := (HT0.out.no HS.out.2).1.at 0 (v := .slice (some ⟨g, 0, none⟩) L.length cL) rfl
                  obtain ⟨g', A3, c3, hg, q0, q1, q2, _, _⟩ := HX.out.1 _ HS.out.2
                  obtain rfl : g = g' := by simpa using hg
                  clear hg
                  by_cases hm0 : ym.length = 0
                  · go_wp2_with fail
                    exact ⟨⟨i + 1, by omega, by go_num, by rw [HM.out]; exact HS.out.1, HS.out.2⟩, by simp [intOf]; omega⟩
                  · have hm1 : (0 : Int) < (ym.length : Int) := by omega
                    go_wp2_with fail
                    exact ⟨⟨i + 1, by omega, by go_num, by rw [HM.out]; exact HS.out.1, HS.out.2⟩, by simp [intOf]; omega⟩
            · have hil : i = L.length := by omega
              have hacc : accT L (txt pb) i = (msL S).foldl layL [] := by rw [hil]; exact HK.out.2.2.2.1
              rw [hacc] at HS hal ⊢
              obtain ⟨b, hb⟩ : ∃ b, ((msL S).foldl layL []).contains (txt ⟨#[71, 69, 84]⟩) = b := ⟨_, rfl⟩
              have HB := Lib.hid hb
              obtain ⟨Av', cv', hv', hRv, _⟩ := own_rowC HS.out.1
              have hRv2 : RowC wr Av (((msL S).foldl layL []).map strV) := by injection hv' with e _ _; rw [e]; exact hRv
              have HRv := Lib.hid hRv2
              have hal2 : allowP S = if b = true then layL ((msL S).foldl layL []) HEAD else (msL S).foldl layL [] := by
                rw [allow_same]
                unfold allowT
                simp only
                rw [show ((msL S).foldl layL []).contains GET = b from hb]
              obtain ⟨acc, hac⟩ : ∃ acc, (msL S).foldl layL [] = acc := ⟨_, rfl⟩
              rw [hac] at HS hal HB HRv hal2 ⊢
              have HAl := Lib.hid hal2
              clear hacc hb hRv hRv2 hv' hal2 hac hT c0 hil
              have c0 := (HT0.out.no HS.out.2).1.at 0 (v := .slice AL L.length cL) rfl
              cases b with
              | false =>
                have HE := Lib.hid (MatchPost.of (HC.out.trans (by rw [HAl.out]; rfl)) HS.out.1 HS.out.2)
                go_wp2_with fail
                refine (rhas_say HB wr Av cv HRv.out (by omega)).mono ?_
                rintro e w5 ⟨rfl, rfl⟩
                go_wp2_with fail
                exact bodyPost_ret (v := .tuple #[.int .i64 0, .string ⟨#[]⟩, .slice Av acc.length cv, .int .i64 405]) (by simp [results, Tryz.results50, go_sem]) rfl HE.out
              | true =>
                have HL := Lib.hid (lay_any wr w.heap.size (.slice Av acc.length cv) acc ⟨#[72, 69, 65, 68]⟩ HS.out.1 HS.out.2.size (by omega))
                go_wp2_with fail
                refine (rhas_say HB wr Av cv HRv.out (by omega)).mono ?_
                rintro e w5 ⟨rfl, rfl⟩
                go_wp2_with fail
                refine HL.out.mono ?_
                rintro e w6 ⟨v6, rfl, hO6, hs6⟩
                have HE := Lib.hid (MatchPost.of (HC.out.trans (by rw [HAl.out]; rfl)) hO6 (HS.out.2.trans hs6 (fun _ _ h => h)))
                obtain ⟨A6, c6, rfl, _, _, _⟩ := own_rowC hO6
                clear hO6 hs6
                go_wp2_with fail
                exact bodyPost_ret (v := .tuple #[.int .i64 0, .string ⟨#[]⟩, .slice A6 (layL acc (txt ⟨#[72, 69, 65, 68]⟩)).length c6, .int .i64 405]) (by simp [results, Tryz.results50, go_sem]) rfl HE.out
      · have hpk : pickL S (txt m) = none := by
          unfold pickL
          rw [HPk.out]
          simp only
          rw [if_neg (fun e => hm ((bytes_eq_iff m HEAD).2 e))]
        have HP2 := Lib.hid hpk
        clear hpk
        have hm2 : (m.toList == [72, 69, 65, 68]) = false := by simpa using hm
        have H3 := Lib.hid H2.out
        unfold ofV
        go_wp2_with fail
        have hc := HK.out.2.2.1 HP2.out
        have HC := Lib.hid hc
        clear hc
        go_loopw [13, 14] (fun v i wr => GmRel w L (txt pb) v i wr) (fun _ i _ => L.length - (intOf i).toNat)
        case atStart => exact ⟨0, Nat.zero_le _, rfl, World.ownsRow_nil _ _ _ 1, H3.out⟩
        case round =>
          obtain ⟨i, hi, rfl, hO, hsm⟩ := hrel
          obtain ⟨vT, lT, hT0⟩ := HI.out.1
          obtain ⟨AL, cL, rfl⟩ := hT0.form
          have hT := hT0.no hsm
          have c0 := hT.1.at 0 (v := .slice AL L.length cL) rfl
          have hal := accT_len (p := txt pb) (i := i) hL HI.out.2.1
          obtain ⟨Av, cv, rfl, _, _, _⟩ := own_rowC hO
          have HS := Lib.hid (And.intro hO hsm)
          have HT0 := Lib.hid hT0
          clear hO hsm hT0
          by_cases hlt : i < L.length
          · obtain ⟨g, A2, c2, hAe, r0, r1, r2, hR2, _⟩ := hT.get hlt
            subst hAe
            have hml := HI.out.2.1 _ (List.getElem_mem hlt)
            have hhit := accT_hit (p := txt pb) hlt
            have hmiss := accT_miss (p := txt pb) hlt
            have hget := fun (W : World) (hW : Sm No w W) => (HT0.out.no hW).get hlt
            obtain ⟨y, hy⟩ : ∃ y, L[i].pat = y := ⟨_, rfl⟩
            obtain ⟨ym, hym⟩ : ∃ y, L[i].ms = y := ⟨_, rfl⟩
            rw [hy] at r0 hhit hmiss
            rw [hym] at r2 hR2 hhit hml
            simp only [hy, hym] at hget
            obtain ⟨yb, e1, e2⟩ : ∃ yb : ByteArray, strB y = .string yb ∧ txt yb = y := ⟨⟨y.toArray⟩, rfl, txt_mk _⟩
            simp only [e1] at r0 hget
            subst e2
            have HX := Lib.hid (And.intro hget (And.intro hhit hmiss))
            have k1 : (0 : Int) ≤ (i : Int) := by omega
            have k2 : (i : Int) < (L.length : Int) := by omega
            obtain ⟨acc, hacc⟩ : ∃ acc, accT L (txt pb) i = acc := ⟨_, rfl⟩
            rw [hacc] at HS HX hal ⊢
            clear hT hy hym e1 hget hhit hmiss hR2 hacc r0 r1 r2
            go_wp2_with fail
            obtain ⟨wo, hwo⟩ : ∃ wo : World, wo = wr := ⟨_, rfl⟩
            rw [← hwo] at HS
            have HWo := Lib.hid hwo
            clear c0
            by_cases hpp : txt yb = txt pb
            · obtain rfl : pb = yb := by rw [← mk_txt yb, ← mk_txt pb, hpp]
              clear hpp
              go_loopw [13, 15] (fun v j wr => GjRel w ym acc v j wr) (fun _ j _ => ym.length - (intOf j).toNat)
              case atStart => exact ⟨0, Nat.zero_le _, rfl, HWo.out ▸ HS.out.1, HWo.out ▸ HS.out.2⟩
              case round =>
                obtain ⟨j, hj, rfl, hO, hsm⟩ := hrel
                have hjl := lays_len (ym.take j) acc
                have hjm : (ym.take j).length ≤ 4000 := by simp; omega
                have c0 := (HT0.out.no hsm).1.at 0 (v := .slice (some ⟨g, 0, none⟩) L.length cL) rfl
                obtain ⟨g', A3, c3, hg, q0, q1, q2, hR3, _⟩ := HX.out.1 wr hsm
                obtain rfl : g = g' := by simpa using hg
                obtain ⟨Aw, cw, rfl, _, _, _⟩ := own_rowC hO
                have HY := Lib.hid (And.intro hO (And.intro hsm hR3))
                clear hO hsm hg hR3
                have j1 : (0 : Int) ≤ (j : Int) := by omega
                by_cases hlt2 : j < ym.length
                · obtain ⟨bb, off, hAe, hbb, q3⟩ := HY.out.2.2.at (strV_at hlt2)
                  subst hAe
                  obtain ⟨t, ht⟩ : ∃ t : ByteArray, (⟨ym[j].toArray⟩ : ByteArray) = t := ⟨_, rfl⟩
                  have hts : txt t = ym[j] := by rw [← ht, txt_mk]
                  rw [ht] at q3
                  have hst : (ym.take (j + 1)).foldl layL acc = layL ((ym.take j).foldl layL acc) (txt t) := by rw [List.take_succ_eq_append_getElem hlt2, List.foldl_append, hts]; rfl
                  have HL := Lib.hid (lay_any wr w.heap.size (.slice Aw ((ym.take j).foldl layL acc).length cw) _ t HY.out.1 HY.out.2.1.size (by omega))
                  have HSt := Lib.hid hst
                  have j2 : (j : Int) < (ym.length : Int) := by omega
                  clear ht hts hst
                  go_wp2_with fail
                  refine HL.out.mono ?_
                  rintro e w5 ⟨v5, rfl, hO5, hs5⟩
                  have H5 := Lib.hid (And.intro hO5 (HY.out.2.1.trans hs5 (fun _ _ h => h)))
                  clear hO5 hs5
                  go_wp2_with fail
                  exact ⟨⟨j + 1, by omega, by go_num, by rw [HSt.out]; exact H5.out.1, H5.out.2⟩, by simp [intOf]; omega⟩
                · have hfin : OwnT wr w.heap.size (.slice Aw ((ym.take j).foldl layL acc).length cw) (accT L (txt pb) (i + 1)) := by
                    rw [HX.out.2.1 rfl]
                    have e : ym.take j = ym := List.take_of_length_le (by omega)
                    have hO := HY.out.1
                    rw [e] at hO ⊢
                    exact hO
                  have HFi := Lib.hid hfin
                  clear hfin
                  go_wp2_with fail
                  exact ⟨⟨i + 1, by omega, by go_num, HFi.out, HY.out.2.1⟩, by simp [intOf]; omega⟩
            · have e3 : ¬ yb.toList = pb.toList := fun e => hpp ((bytes_eq_iff yb (txt pb)).1 (e.trans ((bytes_eq_iff pb (txt pb)).2 rfl)))
              have e4 : (yb.toList == pb.toList) = false := by simpa using e3
              have HM := Lib.hid (HX.out.2.2 hpp)
              clear hpp
              rw [HWo.out] at HS
              go_loopw [13, 15] (fun v j wr' => v = .slice Av acc.length cv ∧ j = .int .i64 0 ∧ wr' = wr) (fun _ _ _ => 0)
              case atStart => exact ⟨rfl, rfl, rfl⟩
              case round =>
                obtain ⟨rfl, rfl, rfl⟩ := hrel
                have c0 := (HT0.out.no HS.out.2).1.at 0 (v := .slice (some ⟨g, 0, none⟩) L.length cL) rfl
                obtain ⟨g', A3, c3, hg, q0, q1, q2, _, _⟩ := HX.out.1 _ HS.out.2
                obtain rfl : g = g' := by simpa using hg
                clear hg
                by_cases hm0 : ym.length = 0
                · go_wp2_with fail
                  exact ⟨⟨i + 1, by omega, by go_num, by rw [HM.out]; exact HS.out.1, HS.out.2⟩, by simp [intOf]; omega⟩
                · have hm1 : (0 : Int) < (ym.length : Int) := by omega
                  go_wp2_with fail
                  exact ⟨⟨i + 1, by omega, by go_num, by rw [HM.out]; exact HS.out.1, HS.out.2⟩, by simp [intOf]; omega⟩
          · have hil : i = L.length := by omega
            have hacc : accT L (txt pb) i = (msL S).foldl layL [] := by rw [hil]; exact HK.out.2.2.2.1
            rw [hacc] at HS hal ⊢
            obtain ⟨b, hb⟩ : ∃ b, ((msL S).foldl layL []).contains (txt ⟨#[71, 69, 84]⟩) = b := ⟨_, rfl⟩
            have HB := Lib.hid hb
            obtain ⟨Av', cv', hv', hRv, _⟩ := own_rowC HS.out.1
            have hRv2 : RowC wr Av (((msL S).foldl layL []).map strV) := by injection hv' with e _ _; rw [e]; exact hRv
            have HRv := Lib.hid hRv2
            have hal2 : allowP S = if b = true then layL ((msL S).foldl layL []) HEAD else (msL S).foldl layL [] := by
              rw [allow_same]
              unfold allowT
              simp only
              rw [show ((msL S).foldl layL []).contains GET = b from hb]
            obtain ⟨acc, hac⟩ : ∃ acc, (msL S).foldl layL [] = acc := ⟨_, rfl⟩
            rw [hac] at HS hal HB HRv hal2 ⊢
            have HAl := Lib.hid hal2
            clear hacc hb hRv hRv2 hv' hal2 hac hT c0 hil
            have c0 := (HT0.out.no HS.out.2).1.at 0 (v := .slice AL L.length cL) rfl
            cases b with
            | false =>
              have HE := Lib.hid (MatchPost.of (HC.out.trans (by rw [HAl.out]; rfl)) HS.out.1 HS.out.2)
              go_wp2_with fail
              refine (rhas_say HB wr Av cv HRv.out (by omega)).mono ?_
              rintro e w5 ⟨rfl, rfl⟩
              go_wp2_with fail
              exact bodyPost_ret (v := .tuple #[.int .i64 0, .string ⟨#[]⟩, .slice Av acc.length cv, .int .i64 405]) (by simp [results, Tryz.results50, go_sem]) rfl HE.out
            | true =>
              have HL := Lib.hid (lay_any wr w.heap.size (.slice Av acc.length cv) acc ⟨#[72, 69, 65, 68]⟩ HS.out.1 HS.out.2.size (by omega))
              go_wp2_with fail
              refine (rhas_say HB wr Av cv HRv.out (by omega)).mono ?_
              rintro e w5 ⟨rfl, rfl⟩
              go_wp2_with fail
              refine HL.out.mono ?_
              rintro e w6 ⟨v6, rfl, hO6, hs6⟩
              have HE := Lib.hid (MatchPost.of (HC.out.trans (by rw [HAl.out]; rfl)) hO6 (HS.out.2.trans hs6 (fun _ _ h => h)))
              obtain ⟨A6, c6, rfl, _, _, _⟩ := own_rowC hO6
              clear hO6 hs6
              go_wp2_with fail
              exact bodyPost_ret (v := .tuple #[.int .i64 0, .string ⟨#[]⟩, .slice A6 (layL acc (txt ⟨#[72, 69, 65, 68]⟩)).length c6, .int .i64 405]) (by simp [results, Tryz.results50, go_sem]) rfl HE.out
end Go.Proofs.YtiglfbimijnpcaaGreatDoor

