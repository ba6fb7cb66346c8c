/- Responses as bytes: the document's Encode. -/
import Derived.Test.YtiglfbimijnpcaaGreatDoorQE
import Derived.Test.YtiglfbimijnpcaaGreatDoorQExt
import Derived.Test.YtiglfbimijnpcaaGreatDoorQO
namespace Go.Proofs.YtiglfbimijnpcaaGreatDoor
open Go.RowKit Go.Proofs

def EncPost (w : World) (r : Rsp) (head : Bool) (minor : Int) (close : Bool) (e : Ending) (w' : World) : Prop :=
  ∃ v, e = .returned (.tuple #[v, .int .i64 (encC r head minor close)]) ∧ (encC r head minor close = 0 → OwnB w' w.heap.size 5 v (encT r head minor close)) ∧ Sm No w w'
theorem EncPost.no {w w' : World} {r : Rsp} {head close : Bool} {minor c : Int} (h : encC r head minor close = c) (hc : c ≠ 0) (hs : Sm No w w') : EncPost w r head minor close (.returned (.tuple #[.slice none 0 0, .int .i64 c])) w' :=
  ⟨.slice none 0 0, by rw [h], fun e => absurd (h.symm.trans e) hc, hs⟩
def EnF (w1 : World) (st : Int) (fs : List Fld) (sv nv iv : Value) (wr : World) : Prop :=
  ∃ (k : Nat) (s : ByteArray), k ≤ fs.length ∧ sv = .string s ∧ nv = .int .i64 s.size ∧ iv = .int .i64 k ∧ txt s = stT st ++ fldsT (fs.take k) ∧ s.size ≤ 65536 ∧ Sm No w1 wr
def EnB (w : World) (T : Txt) (v : Value) (wx : World) : Prop := OwnB wx w.heap.size 5 v T ∧ Sm No w wx
def EnP (w : World) (bb off c n : Nat) (parts : List Nat) (pv fv iv : Value) (wr : World) : Prop :=
  ∃ (k f : Nat) (v : Value), k ≤ parts.length ∧ v = pv ∧ fv = .int .i64 f ∧ iv = .int .i64 k ∧ f ≤ n ∧ partsT n f (parts.drop k) = some n ∧ (cutV bb off c 0 parts).drop k = cutV bb off c f (parts.drop k) ∧
    wr.ownsRow w.heap.size 23 1 v k ((cutV bb off c 0 parts).take k) ∧ Sm No w wr
theorem infoSB : (Tryz.prog.info? 23).map (fun i => (i.zero, i.size, i.bytes)) = some (some (.slice none 0 0), 1, 24) := by kernel_rfl
theorem EnB.push {w w6 w7 : World} {v v' : Value} {l m : Txt} (h6 : Sm No w w6) (h0 : OwnB w6 w.heap.size 5 v l) (h : ownsU w7 w.heap.size 5 1 v' (l.length + m.length) (byteV l ++ byteV m)) (hs : Sm (fun b => v.ownBlock = some b) w6 w7) : EnB w (l ++ m) v' w7 := by
  refine ⟨?_, h6.trans hs (fun b hb e => by have := (h0.lt b e).1; omega)⟩
  show ownsU w7 w.heap.size 5 1 v' (l ++ m).length (byteV (l ++ m))
  rw [List.length_append, byteV_append]
  exact h
theorem may_parts {r : Rsp} {minor : Int} (h : mayW r = true) (hc : chdB r minor = true) : partsT r.body.length 0 r.parts = some r.body.length ∧ 0 < r.body.length := by
  have h1 : partsOk r.body.length r.parts = true := by
    cases h2 : partsOk r.body.length r.parts with
    | true => rfl
    | false => rw [mayW_parts h2] at h; cases h
  have hne : r.parts ≠ [] := fun e => by
    unfold chdB at hc
    rw [e] at hc
    simp at hc
  unfold partsOk at h1
  cases hm : partsT r.body.length 0 r.parts with
  | none => rw [hm] at h1; cases h1
  | some last =>
    rw [hm] at h1
    have h2 : r.parts.isEmpty = false := by
      cases hp : r.parts with
      | nil => exact absurd hp hne
      | cons a b => rfl
    dsimp only at h1
    rw [h2] at h1
    have h3 : last = r.body.length := by simpa using h1
    refine ⟨by rw [h3], ?_⟩
    obtain ⟨a, b, c⟩ := partsT_le hm (Nat.zero_le _)
    cases hp : r.parts with
    | nil => exact absurd hp hne
    | cons p l => have := c p (by rw [hp]; exact List.mem_cons_self); omega
def EnS (w1 : World) (T : Txt) (sv : Value) (wx : World) : Prop := ∃ s : ByteArray, sv = .string s ∧ txt s = T ∧ Sm No w1 wx
theorem stT_len63 {c : Int} (h0 : 200 ≤ c) (h1 : c ≤ 9223372036854775807) : (stT c).length ≤ 63 := by
  have := itoa_len (c := c) (by omega) h1
  have := phraseT_len c
  unfold stT
  simp only [List.length_append, List.length_cons]
  have : sH11.length = 9 := rfl
  have : crlfT.length = 2 := rfl
  omega
set_option maxRecDepth 100000 in
set_option maxHeartbeats 16000000 in
theorem rEncode18_any (w : World) (r : Rsp) (A1 A2 A3 : Option Addr) (c1 c2 c3 : Nat) (hF : FRow w A1 r.fs) (hB : RowC w A2 (byteV r.body)) (hP : RowC w A3 (intsV r.parts)) (hs : Short r.fs) (hb : r.body.length ≤ 100000) (hp : r.parts.length ≤ 1000000) (hfl : r.fs.length ≤ 1000000) (hpp : ∀ n ∈ r.parts, n ≤ 1000000) (hst : -1000000 ≤ r.st ∧ r.st ≤ 1000000)
    (hbc : r.body.length ≤ c2) (hbn : A2 = none → c2 = 0) (head close : Bool) (minor : Int) (hmi : -1000000 ≤ minor ∧ minor ≤ 1000000) :
    Calls Tryz.prog 14 #[.agg #[.int .i64 r.st, .slice A1 r.fs.length c1, .slice A2 r.body.length c2, .slice A3 r.parts.length c3], .bool head, .int .i64 minor, .bool close] w (EncPost w r head minor close) := by
  have HI := Lib.hid (And.intro hF (And.intro hB (And.intro hP (And.intro hs hpp))))
  have HM := Lib.hid (fun W (h : Sm No w W) => rMay_any W r A1 A2 A3 c1 c2 c3 (hF.no h) (hP.no h) hs (by omega) hp hfl hpp hst)
  have HC9 := Lib.hid (fun (h : mayW r = true) k (h2 : 65536 < (stT r.st ++ fldsT (r.fs.take k)).length) => encC_9 (head := head) (close := close) (minor := minor) h (Nat.lt_of_lt_of_le h2 (encT_flds r head close minor k)))
  have HC1 := Lib.hid (fun (h : mayW r = false) => encC_may (head := head) (close := close) (minor := minor) h)
  clear hF hB hP hs hpp
  obtain ⟨may, hmay⟩ : ∃ b, mayW r = b := ⟨_, rfl⟩
  rw [hmay] at HM HC9 HC1
  have HMay := Lib.hid hmay
  clear hmay
  obtain ⟨r0, hr0⟩ : ∃ r0, w.heap.size = r0 := ⟨_, rfl⟩
  have HR0 := Lib.hid hr0
  obtain ⟨st, fs, body, parts⟩ := r
  dsimp only at *
  obtain ⟨m, hm⟩ : ∃ m, body.length = m := ⟨_, rfl⟩
  have HBL := Lib.hid hm
  rw [hm] at hb hbc HM ⊢
  clear hm hr0
  obtain ⟨hst1, hst2⟩ := hst
  obtain ⟨hmi1, hmi2⟩ := hmi
  go_enter Tryz.func14, Tryz.ntmps14
  go_wp2_with fail
  rw [HR0.out]
  obtain ⟨w1, hw1⟩ : ∃ w1, w.alloc (.cells #[.int .i64 st, .slice A1 fs.length c1, .slice A2 m c2, .slice A3 parts.length c3] 52) = w1 := ⟨_, rfl⟩
  have hb1 : Bk w1 r0 52 #[.int .i64 st, .slice A1 fs.length c1, .slice A2 m c2, .slice A3 parts.length c3] := by rw [← hw1, ← HR0.out]; exact Bk.new w _ _
  have hs1 : Sm No w w1 := by rw [← hw1]; exact (Sm.refl No w).alloc _
  rw [hw1]
  have HM1 := Lib.hid (HM.out w1 hs1)
  have H1 := Lib.hid (And.intro hs1 hb1)
  clear hs1 hb1 hw1
  refine HM1.out.mono ?_
  rintro e w2 ⟨rfl, hs2⟩
  have hb2 := H1.out.2.sm hs2 (fun h => h)
  have H2 := Lib.hid (And.intro (H1.out.1.trans hs2 (fun _ _ h => h)) hb2)
  clear hs2
  cases may with
  | false =>
    have HE := Lib.hid (EncPost.no (w' := w2) (HC1.out (by trivial)) (by decide) H2.out.1)
    go_wp2_with fail
    go_ret2
    exact HE.out
  | true =>
    obtain ⟨dB, hdB⟩ : ∃ dB : ByteArray, (⟨(Lib.itoa st).toArray⟩ : ByteArray) = dB := ⟨_, rfl⟩
    obtain ⟨pB, hpB⟩ : ∃ pB : ByteArray, (⟨(phraseT st).toArray⟩ : ByteArray) = pB := ⟨_, rfl⟩
    have HS0 := Lib.hid (fun (h0 : 200 ≤ st) => show txt ((((⟨#[72, 84, 84, 80, 47, 49, 46, 49, 32]⟩ ++ dB) ++ ⟨#[32]⟩) ++ pB) ++ ⟨#[13, 10]⟩ : ByteArray) = stT st from by
      rw [← hdB, ← hpB]
      unfold stT
      simp [txt, sH11, crlfT])
    have hst200 : 200 ≤ st := by
      have h := HMay.out
      by_cases h0 : 200 ≤ st
      · exact h0
      · rw [mayW_st (fun e => h0 e.1)] at h; cases h
    have hdz : dB.size ≤ 20 := by
      rw [← hdB]
      show (Lib.itoa st).toArray.size ≤ 20
      rw [List.size_toArray]
      exact itoa_len (by omega) (by omega)
    have hpz : pB.size ≤ 31 := by
      rw [← hpB]
      show (phraseT st).toArray.size ≤ 31
      rw [List.size_toArray]
      exact phraseT_len st
    have HDec := Lib.hid (fun (x : World) => rDec_any x st (by omega) (by omega))
    have HPhr := Lib.hid (fun (x : World) => rPhrase_any x st)
    unfold strV at HDec HPhr
    rw [hdB] at HDec
    rw [hpB] at HPhr
    have d0 : ∀ x : ExtW w2, x.w.cell? ⟨r0, 0, none⟩ = some (.int .i64 st) := fun x => x.cell hb2.lt (hb2.at 0 rfl)
    have hl2 := hb2.lt
    have q1 := hb2.at 0 (v := .int .i64 st) rfl
    clear hdB hpB hb2
    go_wp2_with fail
    refine wp_region_ext_lit (by kernel_rfl) (by kernel_rfl) ?_
    repeat (go_big_quiet_step ((first
      | (go_at_call 34; exact Calls.ext (HDec.out _))
      | (go_at_call 35; exact Calls.ext_same (HPhr.out _)))))
    refine wpQuiet_nil ?_
    intro w3 hw'
    obtain ⟨⟨_, hs3⟩, hw''⟩ := hw'
    subst hw''
    have H3 := Lib.hid (And.intro (H2.out.1.trans hs3 (fun _ _ h => h)) (H2.out.2.sm hs3 (fun h => h)))
    clear d0 q1 hl2 hs3
    go_wp2_with fail
    go_loopw [10, 11, 12] (fun sv nv iv wr => EnF w3 st fs sv nv iv wr) (fun _ _ iv _ => fs.length - (intOf iv).toNat)
    case atStart => exact ⟨0, _, Nat.zero_le _, rfl, by rw [Value.int.injEq]; refine ⟨rfl, ?_⟩; simp; rfl, rfl, by rw [HS0.out hst200]; simp [fldsT], by
      have h1 := stT_len63 hst200 (by omega : st ≤ 9223372036854775807)
      rw [← HS0.out hst200, txt_len] at h1
      exact Nat.le_trans h1 (by decide), Sm.refl _ _⟩
    case round =>
      obtain ⟨k, s, hk, rfl, rfl, rfl, hs, hsz, hsm⟩ := hrel
      have HS := Lib.hid (And.intro (H3.out.1.trans hsm (fun _ _ h => h)) (And.intro (H3.out.2.sm hsm (fun h => h)) (And.intro hsm hs)))
      clear hsm hs
      have q0 := HS.out.2.1.at 0 (v := .int .i64 st) rfl
      have q1 := HS.out.2.1.at 1 (v := .slice A1 fs.length c1) rfl
      have q2 := HS.out.2.1.at 2 (v := .slice A2 m c2) rfl
      have q3 := HS.out.2.1.at 3 (v := .slice A3 parts.length c3) rfl
      have ql := HS.out.2.1.lt
      by_cases hlt : k < fs.length
      · obtain ⟨bb, off, hAe, hbb, e0, e1⟩ := (HI.out.1.no HS.out.1) k hlt
        obtain ⟨s1, s2⟩ := HI.out.2.2.2.1 fs[k] (List.getElem_mem hlt)
        subst hAe
        have HST := Lib.hid (fldsT_snoc hlt)
        obtain ⟨nm, hnm⟩ : ∃ x, fs[k].1 = x := ⟨_, rfl⟩
        obtain ⟨vl, hvl⟩ : ∃ x, fs[k].2 = x := ⟨_, rfl⟩
        rw [hnm] at e0 s1
        rw [hvl] at e1 s2
        have HT := Lib.hid (show txt ((((s ++ nm) ++ ⟨#[58, 32]⟩) ++ vl) ++ ⟨#[13, 10]⟩ : ByteArray) = stT st ++ fldsT (fs.take (k + 1)) from by
          rw [HST.out, ← List.append_assoc, ← HS.out.2.2.2]
          unfold fldT
          rw [hnm, hvl]
          simp [txt, crlfT])
        have HZ := Lib.hid (show (stT st ++ fldsT (fs.take (k + 1))).length = s.size + nm.size + vl.size + 4 from by
          rw [← HT.out, txt_len]
          simp
          have : (⟨#[58, 32]⟩ : ByteArray).size = 2 := rfl
          have : (⟨#[13, 10]⟩ : ByteArray).size = 2 := rfl
          omega)
        have HSZ := Lib.hid (show ((((s ++ nm) ++ ⟨#[58, 32]⟩) ++ vl) ++ ⟨#[13, 10]⟩ : ByteArray).size = s.size + nm.size + vl.size + 4 from by rw [← txt_len, HT.out, HZ.out])
        have k1 : (0 : Int) ≤ (k : Int) := by omega
        have k2 : (k : Int) < (fs.length : Int) := by omega
        clear hnm hvl
        by_cases hgt : 65536 < s.size + nm.size + vl.size + 4
        · have i1 : (65536 : Int) < (s.size : Int) + nm.size + vl.size + 4 := by omega
          have HE := Lib.hid (HC9.out (by trivial) (k + 1) (by rw [HZ.out]; exact hgt))
          clear hgt
          go_wp2_with fail
          go_quiet (fail)
          go_wp2_with fail
          go_ret2
          exact EncPost.no HE.out (by decide) (HS.out.1.drewN _)
        · have i1 : ¬ (65536 : Int) < (s.size : Int) + nm.size + vl.size + 4 := by omega
          have jb : decide ((65536 : Int) < (s.size : Int) + nm.size + vl.size + 4) = false := decide_eq_false i1
          have HH := Lib.hid hgt
          clear hgt
          go_wp2_with fail
          go_quiet (fail)
          go_upto_region 11 with fail
          go_quiet (fail)
          go_wp2_with fail
          have hgt := HH.out
          exact ⟨⟨k + 1, _, by omega, rfl, congrArg (Value.int .i64) (by rw [HSZ.out]; omega), by go_num, HT.out, by rw [HSZ.out]; omega, HS.out.2.2.1.drewN _⟩, by simp [intOf]; omega⟩
      · obtain rfl : k = fs.length := by omega
        have hs := HS.out.2.2.2
        rw [List.take_length] at hs
        have HSt := Lib.hid hs
        obtain ⟨ch, hch⟩ : ∃ ch, chdB ⟨st, fs, body, parts⟩ minor = ch := ⟨_, rfl⟩
        have HCh := Lib.hid hch
        clear hs hch
        go_upto_region 12 with fail
        go_cut [13] (fun c wx => wx = wr ∧ c = .bool ch)
        case first =>
          by_cases p0 : 0 < parts.length
          · have hne : parts.isEmpty = false := by
              cases parts with
              | nil => exact absurd p0 (by decide)
              | cons a b => rfl
            have HC2 := Lib.hid (show ch = decide (0 < minor) from by rw [← HCh.out]; unfold chdB; rw [hne]; rfl)
            have j1 : (0 : Int) < (parts.length : Int) := by omega
            have j2 : decide ((0 : Int) < (parts.length : Int)) = true := decide_eq_true j1
            have j3 : decide (0 < parts.length) = true := decide_eq_true p0
            clear hne
            go_wp2_with fail
            go_meet
            exact ⟨rfl, by rw [HC2.out]⟩
          · have hne : parts.isEmpty = true := by
              cases parts with
              | nil => rfl
              | cons a b => exact absurd (Nat.succ_pos _) p0
            have HC2 := Lib.hid (show ch = false from by rw [← HCh.out]; unfold chdB; rw [hne]; rfl)
            have j1 : ¬ (0 : Int) < (parts.length : Int) := by omega
            have j2 : decide ((0 : Int) < (parts.length : Int)) = false := decide_eq_false j1
            have j3 : decide (0 < parts.length) = false := decide_eq_false p0
            clear hne
            go_wp2_with fail
            go_meet
            exact ⟨rfl, by rw [HC2.out]⟩
        case rest =>
          obtain ⟨rfl, rfl⟩ := hcut
          obtain ⟨wr, rfl⟩ : ∃ wr : World, wr = wc := ⟨_, rfl⟩
          go_upto_block 2 with fail
          have HS1 := Lib.hid (And.intro HS.out.1 (And.intro HS.out.2.1 HS.out.2.2.1))
          go_cut [10] (fun sv wx => EnS w3 (stT st ++ fldsT fs ++ codF ⟨st, fs, body, parts⟩ minor) sv wx)
          case first =>
            obtain ⟨nb, hnb⟩ : ∃ nb, noBodyB st = nb := ⟨_, rfl⟩
            have HNB := Lib.hid hnb
            have HN := Lib.hid (rNoBody_any wr st)
            rw [hnb] at HN
            clear hnb
            go_wp2_with fail
            refine HN.out.mono ?_
            rintro e w5 ⟨rfl, hw5⟩
            subst hw5
            cases nb with
            | true =>
              go_wp2_with fail
              go_meet
              refine ⟨s, rfl, ?_, HS1.out.2.2⟩
              rw [HSt.out]
              unfold codF
              rw [if_pos HNB.out, List.append_nil]
            | false =>
              cases ch with
              | true =>
                go_wp2_with fail
                go_meet
                refine ⟨_, rfl, ?_, HS1.out.2.2⟩
                unfold codF
                rw [if_neg (by show ¬ noBodyB st = true; rw [HNB.out]; decide), if_pos HCh.out, ← HSt.out]
                simp [txt, sChd, crlfT]
              | false =>
                obtain ⟨lB, hlB⟩ : ∃ lB : ByteArray, (⟨(Lib.itoa (m : Int)).toArray⟩ : ByteArray) = lB := ⟨_, rfl⟩
                have hlz : lB.size ≤ 20 := by
                  rw [← hlB]
                  show (Lib.itoa (m : Int)).toArray.size ≤ 20
                  rw [List.size_toArray]
                  exact itoa_len (by omega) (by omega)
                have HDec := Lib.hid (fun (x : World) => rDec_any x (m : Int) (by omega) (by omega))
                unfold strV at HDec
                rw [hlB] at HDec
                have HLB := Lib.hid (show txt lB = Lib.itoa (m : Int) from by rw [← hlB]; simp [txt])
                clear hlB
                go_wp2_with fail
                refine (HDec.out _).mono ?_
                rintro e w6 ⟨rfl, hs6⟩
                have H6 := Lib.hid (HS1.out.2.2.trans hs6 (fun _ _ h => h))
                clear hs6
                go_wp2_with fail
                go_meet
                refine ⟨_, rfl, ?_, H6.out⟩
                unfold codF
                rw [if_neg (by show ¬ noBodyB st = true; rw [HNB.out]; decide), if_neg (by rw [HCh.out]; decide), ← HSt.out]
                show _ = _ ++ (sCln ++ (Lib.itoa (body.length : Int) ++ crlfT))
                rw [HBL.out, ← HLB.out]
                simp [txt, sCln, crlfT]
          case rest =>
            obtain ⟨s4, rfl, hs4, hsm4⟩ := hcut
            have HS4 := Lib.hid (And.intro (H3.out.1.trans hsm4 (fun _ _ h => h)) (And.intro (H3.out.2.sm hsm4 (fun h => h)) (And.intro hs4 hsm4)))
            have hz4 : s4.size ≤ 65600 := by
              have h1 := codF_len ⟨st, fs, body, parts⟩ minor (by show body.length ≤ 1000000; rw [HBL.out]; omega)
              have h2 := congrArg List.length HSt.out
              rw [← txt_len, hs4, List.length_append]
              rw [txt_len] at h2
              omega
            clear hs4 hsm4
            obtain ⟨w4, rfl⟩ : ∃ w4 : World, w4 = wc := ⟨_, rfl⟩
            go_upto_block 3 with fail
            go_cut [10] (fun sv wx => EnS w3 (stT st ++ fldsT fs ++ codF ⟨st, fs, body, parts⟩ minor ++ conT minor close) sv wx)
            case first =>
              cases close with
              | true =>
                go_wp2_with fail
                go_meet
                refine ⟨_, rfl, ?_, HS4.out.2.2.2⟩
                rw [← HS4.out.2.2.1]
                simp [txt, conT, sClo, crlfT]
              | false =>
                by_cases hmi : minor < 1
                · have hmd : decide (minor < 1) = true := decide_eq_true hmi
                  go_wp2_with fail
                  go_meet
                  refine ⟨_, rfl, ?_, HS4.out.2.2.2⟩
                  rw [← HS4.out.2.2.1, show conT minor false = sKpa ++ crlfT from by unfold conT; rw [if_neg (by decide), if_pos hmi]]
                  simp [txt, sKpa, crlfT]
                · have hmd : decide (minor < 1) = false := decide_eq_false hmi
                  go_wp2_with fail
                  go_meet
                  refine ⟨_, rfl, ?_, HS4.out.2.2.2⟩
                  rw [HS4.out.2.2.1, show conT minor false = [] from by unfold conT; rw [if_neg (by decide), if_neg (by omega)], List.append_nil]
            case rest =>
              obtain ⟨s5, rfl, hs5, hsm5⟩ := hcut
              obtain ⟨w5, rfl⟩ : ∃ w5 : World, w5 = wc := ⟨_, rfl⟩
              have HS5 := Lib.hid (And.intro (H3.out.1.trans hsm5 (fun _ _ h => h)) (H3.out.2.sm hsm5 (fun h => h)))
              have hz5 : s5.size ≤ 65700 := by
                have h1 := conT_len minor close
                rw [← txt_len, hs5, List.length_append, ← HS4.out.2.2.1, txt_len]
                omega
              have HT5 := Lib.hid (show txt (s5 ++ ⟨#[13, 10]⟩ : ByteArray) = headT ⟨st, fs, body, parts⟩ minor close from by
                unfold headT
                rw [← List.append_assoc, ← List.append_assoc, ← List.append_assoc, ← hs5]
                simp [txt, crlfT])
              have hB5 : w.heap.size ≤ w5.heap.size := HS5.out.1.size
              have hz5b : (s5 ++ ⟨#[13, 10]⟩ : ByteArray).size ≤ maxLen := by
                have h1 : (⟨#[13, 10]⟩ : ByteArray).size = 2 := rfl
                have h2 : (s5 ++ ⟨#[13, 10]⟩ : ByteArray).size = s5.size + 2 := by simp; exact h1
                rw [h2]
                unfold maxLen
                omega
              clear hs5 hsm5
              go_wp2_with (refine wpList_bytes_own rfl 9 23 5 _ rfl (s5 ++ ⟨#[13, 10]⟩) rfl Tryz.underlying9 Tryz.underlying23 Tryz.underlying5 w.heap.size hB5 hz5b ?_; intro cB w6 hOB hsB hzB; refine RowKit.Hid.out ?_)
              refine Lib.hid ?_
              have hOB : OwnB w6 w.heap.size 5 (.slice (some ⟨w5.heap.size, 0, none⟩) (s5 ++ ⟨#[13, 10]⟩ : ByteArray).size cB) (headT ⟨st, fs, body, parts⟩ minor close) := by rw [← HT5.out]; exact hOB
              obtain ⟨L6, hL6⟩ : ∃ L6, headT ⟨st, fs, body, parts⟩ minor close = L6 := ⟨_, rfl⟩
              have hL6z : (s5 ++ ⟨#[13, 10]⟩ : ByteArray).size = L6.length := by rw [← hL6, ← HT5.out, txt_len]
              have hz6 : L6.length ≤ 65702 := by
                rw [← hL6z]
                simp
                have : (⟨#[13, 10]⟩ : ByteArray).size = 2 := rfl
                omega
              rw [hL6z, hL6] at hOB
              have HL6 := Lib.hid hL6
              have hL6y : s5.size + 2 = L6.length := by
                have h1 : (⟨#[13, 10]⟩ : ByteArray).size = 2 := rfl
                rw [← hL6z]
                simp
                exact h1.symm
              first | rw [hL6z] | rw [hL6y] | skip
              have H6 := Lib.hid (And.intro (HS5.out.1.trans hsB (fun _ _ h => h)) (And.intro (HS5.out.2.sm hsB (fun h => h)) hOB))
              clear hOB hsB hzB hL6 hL6z hL6y
              have q0 := H6.out.2.1.at 0 (v := .int .i64 st) rfl
              have q1 := H6.out.2.1.at 1 (v := .slice A1 fs.length c1) rfl
              have q2 := H6.out.2.1.at 2 (v := .slice A2 m c2) rfl
              have q3 := H6.out.2.1.at 3 (v := .slice A3 parts.length c3) rfl
              have ql := H6.out.2.1.lt
              go_upto_block 4 with fail
              go_cut [14] (fun v wx => ∃ u, u = v ∧ EnB w (L6 ++ bodyT ⟨st, fs, body, parts⟩ head minor) u wx)
              case first =>
                cases head with
                | true =>
                  go_wp2_with fail
                  go_meet
                  refine ⟨_, rfl, ?_, H6.out.1⟩
                  rw [show bodyT ⟨st, fs, body, parts⟩ true minor = [] from rfl, List.append_nil]
                  exact H6.out.2.2
                | false =>
                  cases ch with
                  | false =>
                    have HE := Lib.hid (show bodyT ⟨st, fs, body, parts⟩ false minor = body from by unfold bodyT; rw [if_neg (by decide), if_neg (by rw [HCh.out]; decide)])
                    have HR := Lib.hid (HI.out.2.1.no H6.out.1)
                    have HN := Lib.hid (show A2 = none → m = 0 ∧ c2 = 0 from fun e => ⟨by have := hbn e; omega, hbn e⟩)
                    have hB6 : w.heap.size ≤ w6.heap.size := H6.out.1.size
                    have hbl : (byteV body).length = m * 1 := by rw [byteV_len, HBL.out, Nat.mul_one]
                    go_wp2_with (refine wpList_pushU_opt rfl _ _ 23 5 rfl Tryz.underlying23 _ 1 1 infoU8 rfl (by decide) (by decide) w.heap.size L6.length _ (byteV L6) rfl H6.out.2.2 A2 m c2 (byteV body) rfl HN.out hbl HR.out (byteV_one body) (by omega) hB6 ?_; intro v7 w7 hO7 hs7 _; refine RowKit.Hid.out ?_)
                    refine Lib.hid ?_
                    have HP := Lib.hid (EnB.push (m := body) H6.out.1 H6.out.2.2 (by rw [HBL.out]; exact hO7) hs7)
                    clear hO7 hs7
                    go_wp2_with fail
                    go_meet
                    rw [HE.out]
                    exact ⟨_, rfl, HP.out⟩
                  | true =>
                    have HPT := Lib.hid (may_parts HMay.out HCh.out)
                    have hm0 : 0 < m := by rw [← HBL.out]; exact HPT.out.2
                    have hbb0 : ∃ bb off, A2 = some ⟨bb, off, none⟩ := by
                      have hb0 : 0 < body.length := by rw [HBL.out]; exact hm0
                      have e : (byteV body)[0]? = some (.int .u8 (body[0]'hb0).toNat) := by simp [byteV, hb0]
                      obtain ⟨bb, off, e2, _⟩ := HI.out.2.1 0 _ e
                      exact ⟨bb, off, e2⟩
                    obtain ⟨bb, off, rfl⟩ := hbb0
                    go_wp2_with fail
                    go_loopw [15, 16, 17] (fun pv fv iv wr => EnP w6 bb off c2 m parts pv fv iv wr) (fun _ _ iv _ => parts.length - (intOf iv).toNat)
                    case atStart => exact ⟨0, 0, _, Nat.zero_le _, rfl, rfl, rfl, Nat.zero_le _, by rw [← HBL.out]; exact HPT.out.1, rfl, World.ownsRow_nil _ _ _ 1, Sm.refl _ _⟩
                    case round =>
                      obtain ⟨k, f, pv, hk, rfl, rfl, rfl, hfm, hpt, hcv, hown, hsm⟩ := hrel
                      have HK := Lib.hid (And.intro (H6.out.1.trans hsm (fun _ _ h => h)) (And.intro (H6.out.2.1.sm hsm (fun h => h)) (And.intro hpt (And.intro hcv (And.intro hown hsm)))))
                      clear hsm q0 q1 q2 q3 ql
                      have q2 := HK.out.2.1.at 2 (v := .slice (some ⟨bb, off, none⟩) m c2) rfl
                      have q3 := HK.out.2.1.at 3 (v := .slice A3 parts.length c3) rfl
                      have ql := HK.out.2.1.lt
                      by_cases hlt : k < parts.length
                      · have e1 : (intsV parts)[k]? = some (.int .i64 (parts[k] : Int)) := by simp [intsV, hlt]
                        obtain ⟨b1, o1, hA1, hb1, e0⟩ := (HI.out.2.2.1.no HK.out.1).at e1
                        subst hA1
                        rw [partsT_at hlt] at hpt
                        obtain ⟨p, hpe⟩ : ∃ p, parts[k] = p := ⟨_, rfl⟩
                        rw [hpe] at e0 hpt
                        have hfp : f < p ∧ p ≤ m := by
                          by_cases hc : p ≤ f ∨ m < p
                          · rw [if_pos hc] at hpt; cases hpt
                          · omega
                        rw [if_neg (by omega)] at hpt
                        have k1 : (0 : Int) ≤ (k : Int) := by omega
                        have k2 : (k : Int) < (parts.length : Int) := by omega
                        have k3 : (0 : Int) ≤ (f : Int) := by omega
                        have k4 : (f : Int) ≤ (p : Int) := by omega
                        have k5 : (p : Int) ≤ (c2 : Int) := by omega
                        have HPE := Lib.hid (And.intro hpe hpt)
                        have hcf : ¬ c2 = f := by omega
                        have HFP := Lib.hid hfp
                        have hk6 : k ≤ 1000000 := by omega
                        have HDC := Lib.hid (drop_cons (show (cutV bb off c2 0 parts).drop k = .slice (some ⟨bb, off + f, none⟩) (p - f) (c2 - f) :: cutV bb off c2 p (parts.drop (k + 1)) from by rw [hcv, List.drop_eq_getElem_cons hlt, hpe]; rfl))
                        have HOwn := Lib.hid ((HK.out.2.2.2.2.1.alloc (.cells #[.slice (some ⟨bb, off + f, none⟩) (p - f) (c2 - f)] 23)).drew)
                        have HBlk := Lib.hid (Bk.new wr 23 #[.slice (some ⟨bb, off + f, none⟩) (p - f) (c2 - f)]).drew
                        have HKb := Lib.hid ((HK.out.2.1.alloc (.cells #[.slice (some ⟨bb, off + f, none⟩) (p - f) (c2 - f)] 23)).drew)
                        have HNe := Lib.hid (show ¬ pv.ownBlock = some r0 from fun e => by have := (World.ownsRow.lt HK.out.2.2.2.2.1 _ e).1; have := H6.out.2.1.lt; omega)
                        have HBB := Lib.hid (show w6.heap.size ≤ ((wr.alloc (.cells #[.slice (some ⟨bb, off + f, none⟩) (p - f) (c2 - f)] 23)).drew).heap.size from (((HK.out.2.2.2.2.2).alloc _).drew).size)
                        have HE7 := Lib.hid (fun (w7 : World) (hs7 : Sm (fun b => pv.ownBlock = some b) ((wr.alloc (.cells #[.slice (some ⟨bb, off + f, none⟩) (p - f) (c2 - f)] 23)).drew) w7) => show w7.cell? ⟨b1, o1 + k, none⟩ = some (.int .i64 (p : Int)) ∧ Sm No w6 w7 from by
                          have h1 : Sm No w6 w7 := (((HK.out.2.2.2.2.2).alloc _).drew).trans hs7 (fun b hb e => by have := (World.ownsRow.lt HK.out.2.2.2.2.1 _ e).1; omega)
                          refine ⟨?_, h1⟩
                          obtain ⟨_, _, hA1, _, e9⟩ := (HI.out.2.2.1.no (H6.out.1.trans h1 (fun _ _ h => h))).at (j := k) (u := .int .i64 (p : Int)) (by simp [intsV, hlt, hpe])
                          injection hA1 with hA1; injection hA1 with g1 g2; subst g1 g2
                          exact e9)
                        clear hpe hpt e1 hcv hown hfp
                        go_wp2_with fail
                        go_region_law
                          ((refine step_push (by rfl) _ _ 85 23 (by rfl) Tryz.underlying85 _ 1 24 infoSB rfl (by decide) (by decide) w6.heap.size k _ ((cutV bb off c2 0 parts).take k) (by rfl) HOwn.out wr.heap.size #[.slice (some ⟨bb, off + f, none⟩) (p - f) (c2 - f)] (by rfl) HBlk.out rfl (by simp [Value.oneCell']) hk6 HBB.out ?_; intro r cap w7 hown7 hs7 hr7; have hb7 := HKb.out.sm hs7 HNe.out; have q3 := hb7.at 3 (v := .slice (some ⟨b1, o1, none⟩) parts.length c3) rfl; have ql7 := hb7.lt; have e07 := (HE7.out w7 hs7).1))
                        all_goals
                          have HF := Lib.hid (And.intro hown7 (HE7.out w7 hs7).2)
                          clear hown7 hs7 hr7 hb7
                          go_wp2_with fail
                          exact ⟨⟨k + 1, p, _, by omega, rfl, rfl, by go_num, HFP.out.2, HPE.out.2, HDC.out.2, by rw [HDC.out.1]; exact HF.out.1, HF.out.2⟩, by simp [intOf]; omega⟩
                      · obtain rfl : k = parts.length := by omega
                        have hcl := cutV_len bb off c2 body parts 0
                        rw [List.take_of_length_le (by rw [hcl.1]; exact Nat.le_refl _)] at hown
                        obtain ⟨A7, c7, rfl, hR7, _⟩ := own_rowC hown
                        have hPA : PartsAt wr A7 (cutP body 0 parts) := by
                          intro j hj
                          obtain ⟨o', c', e1, e2⟩ := cut_rows (c := c2) (HI.out.2.1.no HK.out.1) parts 0 _ HPT.out.1 j hj
                          obtain ⟨b9, o9, e3, e4, e5⟩ := hR7 j _ e1
                          exact ⟨b9, o9, _, c', e3, e4, e5, e2, fun e => by cases e⟩
                        obtain ⟨LC, hLC⟩ : ∃ LC, chunksT (cutP body 0 parts) = LC := ⟨_, rfl⟩
                        have hLz : LC.length ≤ 700005 := by
                          have h1 := cuts_len body parts 0 _ HPT.out.1
                          rw [← hLC]
                          unfold chunksT
                          rw [List.length_append]
                          have : sEnd.length = 5 := rfl
                          have := HBL.out
                          omega
                        have h14 := rEncode14_any wr A7 c7 (cutP body 0 parts) hPA (by rw [hcl.2]; omega) (by rw [hLC]; omega)
                        rw [hcl.2, hLC] at h14
                        have H14 := Lib.hid h14
                        have HE := Lib.hid (show bodyT ⟨st, fs, body, parts⟩ false minor = LC from by unfold bodyT; rw [if_neg (by decide), if_pos HCh.out]; exact hLC)
                        clear hcl hown hR7 hPA h14 hLC hpt hcv
                        go_wp2_with fail
                        refine H14.out.mono ?_
                        rintro e w8 ⟨v8, rfl, hO8, hs8⟩
                        obtain ⟨A8, c8, rfl, hR8, hn8, hN8⟩ := own_rowC hO8
                        have hs68 : Sm No w6 w8 := HK.out.2.2.2.2.2.trans hs8 (fun _ _ h => h)
                        have H8 := Lib.hid (And.intro (H6.out.1.trans hs68 (fun _ _ h => h)) (And.intro (H6.out.2.2.no hs68) (And.intro hR8 (show A8 = none → LC.length = 0 ∧ c8 = 0 from fun e => ⟨by have := hN8 e; omega, hN8 e⟩))))
                        have hB8 : w.heap.size ≤ w8.heap.size := (H6.out.1.trans hs68 (fun _ _ h => h)).size
                        clear hO8 hs8 hR8 hn8 hN8 hs68 q2 q3 ql
                        go_wp2_with (refine wpList_pushU_opt rfl _ _ 23 5 rfl Tryz.underlying23 _ 1 1 infoU8 rfl (by decide) (by decide) w.heap.size L6.length _ (byteV L6) rfl H8.out.2.1 A8 LC.length c8 (byteV LC) rfl H8.out.2.2.2 (by rw [byteV_len, Nat.mul_one]) H8.out.2.2.1 (byteV_one LC) (by omega) hB8 ?_; intro v9 w9 hO9 hs9 _; refine RowKit.Hid.out ?_)
                        refine Lib.hid ?_
                        have HP := Lib.hid (EnB.push (m := LC) H8.out.1 H8.out.2.1 hO9 hs9)
                        clear hO9 hs9 hB8
                        go_wp2_with fail
                        go_meet
                        rw [HE.out]
                        exact ⟨_, rfl, HP.out⟩
              case rest =>
                obtain ⟨u, rfl, hO9, hs9⟩ := hcut
                obtain ⟨w9, rfl⟩ : ∃ w9 : World, w9 = wc := ⟨_, rfl⟩
                have HEn := Lib.hid (show L6 ++ bodyT ⟨st, fs, body, parts⟩ head minor = encT ⟨st, fs, body, parts⟩ head minor close from by rw [← HL6.out]; rfl)
                rw [HEn.out] at hO9
                obtain ⟨A9, c9, rfl, _⟩ := hO9.row
                obtain ⟨N, hN⟩ : ∃ N, (encT ⟨st, fs, body, parts⟩ head minor close).length = N := ⟨_, rfl⟩
                have HN := Lib.hid hN
                have H9 := Lib.hid (And.intro hO9 hs9)
                rw [hN] at H9 ⊢
                clear hO9 hs9 hN q0 q1 q2 q3 ql
                by_cases hgt : 65536 < N
                · have i1 : (65536 : Int) < (N : Int) := by omega
                  have jb : decide ((65536 : Int) < (N : Int)) = true := decide_eq_true i1
                  have HE := Lib.hid (encC_9 (r := ⟨st, fs, body, parts⟩) (head := head) (close := close) (minor := minor) HMay.out (by rw [HN.out]; exact hgt))
                  clear hgt
                  go_wp2_with fail
                  go_ret2
                  exact EncPost.no HE.out (by decide) H9.out.2
                · have i1 : ¬ (65536 : Int) < (N : Int) := by omega
                  have jb : decide ((65536 : Int) < (N : Int)) = false := decide_eq_false i1
                  have HE := Lib.hid (encC_0 (r := ⟨st, fs, body, parts⟩) (head := head) (close := close) (minor := minor) HMay.out (by rw [HN.out]; omega))
                  clear hgt
                  go_wp2_with fail
                  go_ret2
                  refine ⟨_, by rw [HE.out]; rfl, fun _ => ?_, H9.out.2⟩
                  exact H9.out.1
end Go.Proofs.YtiglfbimijnpcaaGreatDoor

