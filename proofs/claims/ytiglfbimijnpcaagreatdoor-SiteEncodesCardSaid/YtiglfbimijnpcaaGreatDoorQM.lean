/- What a Site answers a request that came as bytes: it may be encoded, and is short. No program in sight. -/
/- The law SiteEncodes: its walk (printed by genPrtM.py). -/
import Derived.Test.YtiglfbimijnpcaaGreatDoorQE
import Derived.Test.YtiglfbimijnpcaaGreatDoorQJ
import Derived.Test.YtiglfbimijnpcaaGreatDoorQZ
import Derived.Test.YtiglfbimijnpcaaGreatDoorQPrtH
import Derived.Test.YtiglfbimijnpcaaGreatDoorQPrtB
import Derived.Test.YtiglfbimijnpcaaGreatDoorQSiteH
import Derived.Test.YtiglfbimijnpcaaGreatDoorQSiteE
namespace Go.Proofs.YtiglfbimijnpcaaGreatDoor
open Go.RowKit Go.Proofs

theorem dropW_idem (p : UInt8 → Bool) (l : Txt) : (l.dropWhile p).dropWhile p = l.dropWhile p := by
  induction l with
  | nil => rfl
  | cons c l ih =>
    cases h : p c with
    | true => rw [List.dropWhile_cons_of_pos h, ih]
    | false => rw [List.dropWhile_cons_of_neg (by simp [h]), List.dropWhile_cons_of_neg (by simp [h])]
theorem trimL_idem (l : Txt) : trimL (trimL l) = trimL l := by
  rw [trimL_eq, trimL_eq, drop_comm]
  show dropR (dropR _) = _
  have e1 : dropL (dropL l) = dropL l := dropW_idem _ _
  have e2 : ∀ m : Txt, dropR (dropR m) = dropR m := fun m => by
    unfold dropR
    rw [List.reverse_reverse, dropW_idem]
  rw [e1, e2]
theorem valL_trim {l : Txt} (h : valL l = true) : valL (trimL l) = true := by
  unfold valL at *
  rw [List.all_eq_true] at *
  intro c hc
  refine h c ?_
  rw [trimL_eq] at hc
  unfold dropR at hc
  rw [List.mem_reverse] at hc
  have h1 := (List.dropWhile_sublist blB).subset hc
  rw [List.mem_reverse] at h1
  exact (List.dropWhile_sublist blB).subset h1
theorem addL_whole : ∀ (l cur : List Fld), (∀ x ∈ l, isX x = true) → cur.length + l.length ≤ 24 → (addL cur l).1 = cur ++ l
  | [], cur, _, _ => by simp [addL]
  | x :: l, cur, hx, hl => by
    rw [List.length_cons] at hl
    have h1 := hx x List.mem_cons_self
    unfold addL
    rw [if_neg (by rw [h1]; decide), if_neg (by omega)]
    show (addL (cur ++ [x]) l).1 = _
    rw [addL_whole l (cur ++ [x]) (fun y hy => hx y (List.mem_cons_of_mem _ hy)) (by simp; omega), List.append_assoc]
    rfl
theorem isX_val {x : Fld} (h : isX x = true) : valL (txt x.2) = true := by
  unfold isX isF at h
  simp only [Bool.and_eq_true] at h
  exact h.2.1
theorem sep_val : valL sep = true := by decide
theorem vals_tail (name : ByteArray) : ∀ fs : List Fld, (∀ x ∈ fs, isX x = true) → valL (Lib.joinTail sep ((valuesL fs name).map (·.data.toList))) = true ∧ (Lib.joinTail sep ((valuesL fs name).map (·.data.toList))).length ≤ fsz fs + 2 * fs.length
  | [], _ => ⟨rfl, Nat.le_refl _⟩
  | x :: fs, hx => by
    obtain ⟨h1, h2⟩ := vals_tail name fs (fun y hy => hx y (List.mem_cons_of_mem _ hy))
    have hv := isX_val (hx x List.mem_cons_self)
    have e3 : fsz (x :: fs) = x.1.size + x.2.size + fsz fs := by simp [fsz]
    rw [e3, List.length_cons]
    unfold valuesL
    rw [List.filter_cons]
    by_cases hs : sameL x.1.data.toList name.data.toList = true
    · rw [if_pos hs]
      have e1 : Lib.joinTail sep (((x :: fs.filter fun x => sameL x.1.data.toList name.data.toList).map (·.2)).map (·.data.toList)) = sep ++ (txt x.2 ++ Lib.joinTail sep ((valuesL fs name).map (·.data.toList))) := by
        simp [Lib.joinTail, valuesL, txt]
      rw [e1]
      refine ⟨?_, ?_⟩
      · unfold valL at *
        rw [List.all_append, List.all_append, show List.all sep valB = true from sep_val, hv, h1]
        rfl
      · rw [List.length_append, List.length_append]
        have : (txt x.2).length = x.2.size := txt_len x.2
        have : sep.length = 2 := rfl
        omega
    · rw [if_neg hs]
      exact ⟨h1, Nat.le_trans h2 (by omega)⟩
theorem getL_ok (name : ByteArray) (fs : List Fld) (hx : ∀ x ∈ fs, isX x = true) : valL (getL fs name) = true ∧ (getL fs name).length ≤ fsz fs + 2 * fs.length := by
  obtain ⟨h1, h2⟩ := vals_tail name fs hx
  unfold getL
  cases hv : (valuesL fs name).map (·.data.toList) with
  | nil => exact ⟨rfl, by rw [Lib.join_nil]; exact Nat.zero_le _⟩
  | cons y r =>
    rw [hv] at h1 h2
    have e1 : Lib.joinTail sep (y :: r) = sep ++ (y ++ Lib.joinTail sep r) := by simp [Lib.joinTail]
    rw [e1] at h1 h2
    rw [Lib.join_cons]
    unfold valL at *
    rw [List.all_append, Bool.and_eq_true] at h1
    exact ⟨h1.2, by rw [List.length_append] at h2; omega⟩
theorem typeL_ok (fs : List Fld) (hx : ∀ x ∈ fs, isX x = true) (hl : fs.length ≤ 24) : valL (txt (typeL fs)) = true ∧ trimL (txt (typeL fs)) = txt (typeL fs) ∧ (txt (typeL fs)).length ≤ fsz fs + 100 := by
  obtain ⟨h1, h2⟩ := getL_ok (txtB sCT) fs hx
  have e : (addL [] fs).1 = fs := by rw [addL_whole fs [] hx (by simpa using hl)]; rfl
  unfold typeL
  rw [e]
  by_cases h0 : trimL (getL fs (txtB sCT)) = []
  · rw [if_pos h0]
    have : (txt (txtB sOctet)).length = 24 := by decide
    exact ⟨by decide +kernel, by decide +kernel, by omega⟩
  · rw [if_neg h0]
    show valL (trimL (getL fs (txtB sCT))) = true ∧ trimL (trimL (getL fs (txtB sCT))) = trimL (getL fs (txtB sCT)) ∧ (trimL (getL fs (txtB sCT))).length ≤ _
    have := trimL_le (getL fs (txtB sCT))
    exact ⟨valL_trim h1, trimL_idem _, by omega⟩
theorem ct_may {kind : ByteArray} (h1 : valL (txt kind) = true) (h2 : trimL (txt kind) = txt kind) : fldMay (txtB sCT, kind) = true := by
  unfold fldMay isX isF
  rw [show tokL (txtB sCT, kind).1.data.toList = true from (by decide +kernel : tokL (txtB sCT).data.toList = true), show ownL (txt (txtB sCT, kind).1) = false from (by decide +kernel : ownL (txt (txtB sCT)) = false)]
  show (true && (valL (txt kind) && trimL (txt kind) == txt kind)) && !false = true
  rw [h1, h2]
  simp
/-- Few fields, a short body. -/
structure Neat (r : Rsp) : Prop where
  st : 200 ≤ r.st ∧ r.st ≤ 599
  len : r.fs.length ≤ 2
  fld : ∀ x ∈ r.fs, fldMay x = true ∧ (txt x.1).length ≤ 100 ∧ (txt x.2).length ≤ 2000
  body : r.body.length ≤ 2048
  parts : partsOk r.body.length r.parts = true
  nob : (r.body.isEmpty || !noBodyB r.st) = true
theorem body_len {r : Rsp} (h : Neat r) (head : Bool) (minor : Int) : (bodyT r head minor).length ≤ 16000 := by
  have hb := h.body
  unfold bodyT
  split
  · simp
  · split
    · unfold chunksT
      rw [List.length_append]
      have hp := h.parts
      unfold partsOk at hp
      cases hm : partsT r.body.length 0 r.parts with
      | none => rw [hm] at hp; cases hp
      | some m =>
        have := cuts_len r.body r.parts 0 m hm
        have := (partsT_le hm (Nat.zero_le _)).1
        have : sEnd.length = 5 := rfl
        omega
    · omega
theorem flds_len : ∀ (l : List Fld), (∀ x ∈ l, (txt x.1).length ≤ 100 ∧ (txt x.2).length ≤ 2000) → (fldsT l).length ≤ 2104 * l.length
  | [], _ => by simp [fldsT]
  | x :: l, h => by
    have h1 := flds_len l (fun y hy => h y (List.mem_cons_of_mem _ hy))
    have h2 := h x List.mem_cons_self
    have e : fldsT (x :: l) = fldT x ++ fldsT l := by simp [fldsT]
    rw [e, List.length_append, List.length_cons]
    unfold fldT
    simp only [List.length_append, List.length_cons]
    have : crlfT.length = 2 := rfl
    omega
theorem stT_len {c : Int} (h0 : 0 ≤ c) (h1 : c ≤ 9223372036854775807) : (stT c).length ≤ 63 := by
  have := itoa_len h0 h1
  have := phraseT_len c
  unfold stT
  simp only [List.length_append, List.length_cons]
  have : sH11.length = 9 := rfl
  have : crlfT.length = 2 := rfl
  omega
theorem Neat.may {r : Rsp} (h : Neat r) : mayW r = true := by
  have hf : r.fs.all fldMay = true := List.all_eq_true.2 (fun x hx => (h.fld x hx).1)
  rw [mayW_end h.st (by have := h.len; omega) hf h.parts]
  exact h.nob
theorem Neat.enc {r : Rsp} (h : Neat r) (head close : Bool) (minor : Int) : encC r head minor close = 0 := by
  refine encC_0 h.may ?_
  rw [encT_body]
  have h1 := body_len h head minor
  have h2 := flds_len r.fs (fun x hx => (h.fld x hx).2)
  have h3 := stT_len (c := r.st) (by have := h.st; omega) (by have := h.st; omega)
  have h4 := codF_len r minor (by have := h.body; omega)
  have h5 := conT_len minor close
  have h6 := h.len
  unfold headT
  simp only [List.length_append]
  have : crlfT.length = 2 := rfl
  have : 2104 * r.fs.length ≤ 2104 * 2 := Nat.mul_le_mul_left _ h6
  omega
theorem neat_ok {kind : ByteArray} {l : Txt} (h1 : valL (txt kind) = true) (h2 : trimL (txt kind) = txt kind) (h3 : (txt kind).length ≤ 2000) (hb : l.length ≤ 2048) : Neat (okL kind l) :=
  ⟨⟨by show (200 : Int) ≤ 200; decide, by show (200 : Int) ≤ 599; decide⟩, by show 1 ≤ 2; decide, fun x hx => by
    have hx : x ∈ [(txtB sCT, kind)] := hx
    rw [List.mem_singleton] at hx
    subst hx
    exact ⟨ct_may h1 h2, by show (txt (txtB sCT)).length ≤ 100; decide, h3⟩, hb, rfl, by rw [show noBodyB (okL kind l).st = false from (by decide : noBodyB 200 = false)]; simp⟩
theorem neat_plain {l : Txt} (hb : l.length ≤ 2048) : Neat (okL (txtB sPlain) l) := neat_ok (by decide +kernel) (by decide +kernel) (by decide) hb
theorem plain_may : fldMay (ctOf sPlain) = true ∧ (txt (ctOf sPlain).1).length ≤ 100 ∧ (txt (ctOf sPlain).2).length ≤ 2000 := ⟨by decide +kernel, by decide, by decide⟩
theorem neat_canned {c : Int} {more : List Fld} (hc : 200 ≤ c ∧ c ≤ 599) (hl : more.length ≤ 1) (h : ∀ x ∈ more, fldMay x = true ∧ (txt x.1).length ≤ 100 ∧ (txt x.2).length ≤ 2000) : Neat (cannedL c more) := by
  unfold cannedL
  by_cases hn : noBodyB c = true
  · rw [if_pos hn]
    exact ⟨hc, by show more.length ≤ 2; omega, h, by show 0 ≤ 2048; decide, rfl, rfl⟩
  · rw [if_neg hn]
    refine ⟨hc, by show more.length + 1 ≤ 2; omega, fun x hx => ?_, ?_, rfl, ?_⟩
    · rcases List.mem_cons.1 hx with rfl | hx
      · exact plain_may
      · exact h x hx
    · show (Lib.itoa c ++ 32 :: (phraseT c ++ [10])).length ≤ _
      simp only [List.length_append, List.length_cons, List.length_nil]
      have := itoa_len (c := c) (by omega) (by omega)
      have := phraseT_len c
      omega
    · show ((Lib.itoa c ++ 32 :: (phraseT c ++ [10])).isEmpty || !noBodyB c) = true
      rw [show noBodyB c = false from by simpa using hn]
      simp
theorem parts_up (n : Nat) : ∀ (m j : Nat), j + m = (n + 15) / 16 → partsT n (min (16 * j) n) ((List.range' j m).map fun k => min (16 * (k + 1)) n) = some (min (16 * (j + m)) n)
  | 0, j, _ => rfl
  | m + 1, j, h => by
    rw [List.range'_succ, List.map_cons]
    unfold partsT
    rw [if_neg (by omega)]
    rw [parts_up n m (j + 1) (by omega)]
    congr 2
    omega
theorem parts_ent (n : Nat) : partsOk n (partsL n) = true := by
  have h := parts_up n ((n + 15) / 16) 0 (by omega)
  unfold partsOk partsL
  rw [List.range_eq_range']
  rw [show min (16 * 0) n = 0 by omega] at h
  rw [h]
  by_cases h0 : n = 0
  · subst h0; rfl
  · show (_ || min (16 * (0 + (n + 15) / 16)) n == n) = true
    rw [show min (16 * (0 + (n + 15) / 16)) n = n by omega]
    simp
theorem neat_ent {x : Ent} (h : entB x = true) : Neat (entA x) := by
  obtain ⟨_, _, h3, h4, h5, h6⟩ := allE_false h
  unfold entA
  have e : (txt x.data).length = x.data.size := txt_len _
  refine ⟨⟨by show (200 : Int) ≤ 200; decide, by show (200 : Int) ≤ 599; decide⟩, by show 1 ≤ 2; decide, fun y hy => ?_, by show (txt x.data).length ≤ _; omega, ?_, by rw [show noBodyB 200 = false from by decide]; simp⟩
  · have hy : y ∈ [(txtB sCT, x.type)] := hy
    rw [List.mem_singleton] at hy
    subst hy
    exact ⟨ct_may h4 h5, by show (txt (txtB sCT)).length ≤ 100; decide, by show (txt x.type).length ≤ _; rw [txt_len]; omega⟩
  · show partsOk (txt x.data).length (if _ then _ else _) = true
    rw [e]
    split
    · exact parts_ent _
    · rfl
def al3 : List Txt := [GET, HEAD, POST]
theorem al3_up : ∀ a ∈ al3, ∀ b ∈ al3, ∀ c ∈ al3, ∀ d ∈ al3, ¬ (a < b ∧ b < c ∧ c < d) := by decide +kernel
def fldGood (x : Fld) : Bool := fldMay x && (decide ((txt x.1).length ≤ 100) && decide ((txt x.2).length ≤ 2000))
theorem fldGood_is {x : Fld} (h : fldGood x = true) : fldMay x = true ∧ (txt x.1).length ≤ 100 ∧ (txt x.2).length ≤ 2000 := by
  unfold fldGood at h
  simpa using h
theorem al3_good0 : fldGood (allowF []) = true := by decide +kernel
theorem al3_good1 : ∀ a ∈ al3, fldGood (allowF [a]) = true := by decide +kernel
theorem al3_good2 : ∀ a ∈ al3, ∀ b ∈ al3, fldGood (allowF [a, b]) = true := by decide +kernel
theorem al3_good3 : ∀ a ∈ al3, ∀ b ∈ al3, ∀ c ∈ al3, fldGood (allowF [a, b, c]) = true := by decide +kernel
theorem al3_may {al : List Txt} (ha : Asc al) (h : ∀ t ∈ al, t ∈ al3) : fldGood (allowF al) = true := by
  match al, ha, h with
  | [], _, _ => exact al3_good0
  | [a], _, h => exact al3_good1 a (h a (by simp))
  | [a, b], _, h => exact al3_good2 a (h a (by simp)) b (h b (by simp))
  | [a, b, c], _, h => exact al3_good3 a (h a (by simp)) b (h b (by simp)) c (h c (by simp))
  | a :: b :: c :: d :: r, ha, h =>
    refine absurd ?_ (al3_up a (h a (by simp)) b (h b (by simp)) c (h c (by simp)) d (h d (by simp)))
    have h1 := List.pairwise_cons.1 ha
    have h2 := List.pairwise_cons.1 h1.2
    have h3 := List.pairwise_cons.1 h2.2
    exact ⟨h1.1 b (by simp), h2.1 c (by simp), h3.1 d (by simp)⟩
theorem match_allow (T : List Ent) (m path : Txt) (h : (matchL (routesL T) m path).2.2.2 = 405) : Asc (matchL (routesL T) m path).2.2.1 ∧ ∀ t ∈ (matchL (routesL T) m path).2.2.1, t ∈ al3 := by
  unfold matchL at h ⊢
  cases hf : findP (routesL T) path with
  | none => rw [hf] at h; simp only at h; exact absurd h (by decide)
  | some kr =>
    obtain ⟨k, rest⟩ := kr
    rw [hf] at h
    cases hp : pickL (sel (routesL T) k) m with
    | some i => simp only [hp] at h; exact absurd h (by decide)
    | none =>
      simp only [hp]
      unfold allowP
      have hc := compact_asc (sortL_le (withHead (msL (sel (routesL T) k))))
      refine ⟨hc.1, fun t ht => ?_⟩
      have ht := (hc.2 t).1 ht
      rw [sortL_mem] at ht
      unfold withHead at ht
      have h2 : t = HEAD ∨ t ∈ msL (sel (routesL T) k) := by
        split at ht
        · rcases List.mem_append.1 ht with h | h
          · exact Or.inr h
          · exact Or.inl (by simpa using h)
        · exact Or.inr ht
      rcases h2 with rfl | h2
      · simp [al3]
      · obtain ⟨y, hy, hty⟩ := List.mem_flatMap.1 h2
        rcases mem_routes (List.mem_filter.1 hy).1 with hb | ⟨_, _, _, rfl⟩
        · simp only [base3, List.mem_cons, List.not_mem_nil, or_false] at hb
          rcases hb with rfl | rfl | rfl <;> (simp only [List.mem_cons, List.not_mem_nil, or_false] at hty; subst hty; simp [al3])
        · have : t = GET := by simpa [entLt] using hty
          subst this
          simp [al3]
theorem neat_404 : Neat (cannedL 404 []) := neat_canned (by decide) (by decide) (fun x hx => by cases hx)
theorem neat_key {T : List Ent} (hT : tableB T = true) (q : Txt) : Neat (keyA T q) := by
  unfold keyA
  split
  · rename_i x hx
    have hm := List.mem_of_find?_eq_some hx
    have hT2 : entB x = true := by
      unfold tableB at hT
      rw [Bool.and_eq_true, List.all_eq_true] at hT
      exact hT.2 x hm
    have := (allE_false hT2).2.2.2.2.2
    exact neat_plain (by rw [txt_len]; exact this)
  · exact neat_404
theorem serve_neat (T : List Ent) (q : Rq) (hT : tableB T = true) (hx : ∀ x ∈ q.fs, isX x = true) (hl : q.fs.length ≤ 24) (hz : fsz q.fs ≤ 1100) (hb : q.body.length ≤ 2048) : Neat (serveL T q) := by
  unfold serveL
  split
  · exact neat_canned (by decide) (by decide) (fun x hx => by
      rw [List.mem_singleton] at hx
      subst hx
      exact fldGood_is (by decide +kernel))
  · split
    · exact neat_canned (by decide) (by decide) (fun x hx => by cases hx)
    · split
      · exact neat_404
      · split
        · rename_i h405
          obtain ⟨h1, h2⟩ := match_allow T _ _ h405
          refine neat_canned (by split <;> decide) (Nat.le_refl 1) (fun x hx => ?_)
          rw [List.mem_singleton] at hx
          subst hx
          exact fldGood_is (al3_may h1 h2)
        · unfold idA
          split
          · obtain ⟨h1, h2, h3⟩ := typeL_ok q.fs hx hl
            exact neat_ok h1 h2 (by omega) hb
          · split
            · exact neat_key hT _
            · split
              · exact neat_plain (by decide)
              · split
                · rename_i x hxx
                  have hm := List.mem_of_getElem? hxx
                  unfold tableB at hT
                  rw [Bool.and_eq_true, List.all_eq_true] at hT
                  exact neat_ent (hT.2 x hm)
                · exact neat_404
end Go.Proofs.YtiglfbimijnpcaaGreatDoor

namespace Go.Proofs.YtiglfbimijnpcaaGreatDoor
open Go.RowKit Go.Proofs

def zeroRq : Value := .agg #[.string ⟨#[]⟩, .int .i64 0, .string ⟨#[]⟩, .string ⟨#[]⟩, .string ⟨#[]⟩, .int .i64 0, .slice none 0 0, .slice none 0 0, .bool false, .bool false]
set_option maxRecDepth 100000 in
set_option maxHeartbeats 4000000 in
theorem rTake_no (w : World) (O : Nat → Prop) (g : Nat) (s : PrS) (hI : IsPrs w O g s) (hp : s.phase ≠ 3) :
    Calls Tryz.prog 12 #[.pointer (some ⟨g, 0, none⟩)] w fun e w' => e = .returned (.tuple #[zeroRq, .int .i64 4]) ∧ Sm No w w' := by
  obtain ⟨hd, ln, k, l, c, x, vB, ch, cm, hK⟩ := hI.ph
  obtain ⟨ph, hph⟩ : ∃ ph, s.phase = ph := ⟨_, rfl⟩
  rw [hph] at hp hK
  have hgl := Bk.lt hK
  have hc := Bk.at hK 0 (v := .int .i64 ph) rfl
  have hpn : (ph != 3) = true := by simpa using hp
  clear hI hK hph
  unfold zeroRq
  go_enter Tryz.func12, Tryz.ntmps12
  go_wp2_with fail
  exact bodyPost_ret (v := .tuple #[.agg #[.string ⟨#[]⟩, .int .i64 0, .string ⟨#[]⟩, .string ⟨#[]⟩, .string ⟨#[]⟩, .int .i64 0, .slice none 0 0, .slice none 0 0, .bool false, .bool false], .int .i64 4]) (by simp [results, Tryz.results12, go_sem]) rfl ⟨rfl, (Sm.refl No w).alloc _⟩
theorem new_uni {w w' : World} {T : List Ent} {e : Ending} (h : NewPost w T e w') : ∃ pv, e = .returned (.tuple #[pv, .int .i64 (siteC T)]) ∧ Sm No w w' ∧ (siteC T = 0 → ∃ s O, pv = .pointer (some ⟨s, 0, none⟩) ∧ IsSite w' O s T ∧ ∀ b, O b → w.heap.size ≤ b) := by
  rcases h with ⟨h0, s, O, rfl, hS, hs, hO⟩ | ⟨h0, rfl, hs⟩
  · exact ⟨_, by rw [h0], hs, fun _ => ⟨s, O, rfl, hS, hO⟩⟩
  · exact ⟨_, rfl, hs, fun e => absurd e h0⟩
theorem newx_uni {w w' : World} {T : List Ent} {e : Ending} (h : NewPostX w T e w') : ∃ pv, e = .returned (.tuple #[pv, .int .i64 (siteC T)]) ∧ Sm No w w' := by
  rcases h with ⟨h0, s, O, rfl, _, hs, _⟩ | ⟨_, rfl, hs⟩
  · exact ⟨_, by rw [h0], hs⟩
  · exact ⟨_, rfl, hs⟩
theorem table_of {T : List Ent} (h : siteC T = 0) : tableB T = true := by
  unfold siteC at h
  cases ht : tableB T with
  | true => rfl
  | false => rw [if_neg (by rw [ht]; decide)] at h; exact absurd h (by decide)
theorem parts_count {n : Nat} : ∀ {l : List Nat} {f m : Nat}, partsT n f l = some m → l.length + f ≤ m
  | [], f, m, h => by injection h with h; subst h; simp
  | p :: l, f, m, h => by
    unfold partsT at h
    by_cases hc : p ≤ f ∨ n < p
    · rw [if_pos hc] at h; cases h
    · rw [if_neg hc] at h
      have := parts_count h
      rw [List.length_cons]
      omega
theorem Neat.bounds {r : Rsp} (h : Neat r) : Short r.fs ∧ r.body.length ≤ 100000 ∧ r.parts.length ≤ 1000000 ∧ r.fs.length ≤ 1000000 ∧ (∀ n ∈ r.parts, n ≤ 1000000) ∧ (-1000000 ≤ r.st ∧ r.st ≤ 1000000) := by
  have hb := h.body
  have hst := h.st
  have hl := h.len
  have hp := h.parts
  unfold partsOk at hp
  cases hm : partsT r.body.length 0 r.parts with
  | none => rw [hm] at hp; cases hp
  | some m =>
    obtain ⟨a1, a2, a3⟩ := partsT_le hm (Nat.zero_le _)
    have a4 := parts_count hm
    refine ⟨fun x hx => ?_, by omega, by omega, by omega, fun n hn => ?_, by omega, by omega⟩
    · have := (h.fld x hx).2
      rw [txt_len, txt_len] at this
      omega
    · have := a3 n hn; omega
/-- Encode of a neat answer. -/
theorem enc_neat {w : World} {B : Nat} {v : Value} {r : Rsp} (hR : RspV w B v r) (hn : Neat r) (minor : Int) (hmi : minor = 0 ∨ minor = 1) (head close : Bool) :
    Calls Tryz.prog 14 #[v, .bool head, .int .i64 minor, .bool close] w fun e w' => (∃ v', e = .returned (.tuple #[v', .int .i64 0])) ∧ Sm No w w' := by
  obtain ⟨vF, vB, vP, rfl, h1, h2, h3⟩ := hR
  obtain ⟨A1, c1, rfl, h1, _⟩ := h1.row
  obtain ⟨A2, c2, rfl, h2, hc2, hn2⟩ := h2.row
  obtain ⟨A3, c3, rfl, h3, _⟩ := h3.row
  obtain ⟨b1, b2, b3, b4, b5, b6⟩ := hn.bounds
  refine (rEncode18_any w r A1 A2 A3 c1 c2 c3 h1.frow h2 h3 b1 b2 b3 b4 b5 b6 hc2 hn2 head close minor (by omega)).mono ?_
  rintro e w' ⟨v', rfl, _, hs⟩
  rw [hn.enc head close minor]
  exact ⟨⟨v', rfl⟩, hs⟩
def rqOf (r : ReqW) : Rq := ⟨⟨r.method.toArray⟩, r.target.form, ⟨r.target.host.toArray⟩, ⟨r.target.path.toArray⟩, ⟨r.target.query.toArray⟩, r.minor, r.fields, r.body, r.close, r.expect⟩
/-- What is known of a request that came as bytes. -/
theorem rq_came {h : Hd} {bb : Txt} (ho : PrsOk (.whole h bb)) (hz : PrsSz (.whole h bb)) {w : World} {v : Value} (hv : ReqV w (reqW h bb) v) :
    ∃ A1 c1 A2 c2, v = reqV (rqOf (reqW h bb)) A1 c1 A2 c2 ∧ RqOk w (rqOf (reqW h bb)) A1 c1 A2 c2 := by
  obtain ⟨A1, c1, A2, c2, rfl, hF, hR, ⟨a1, rfl⟩, ⟨a2, rfl⟩⟩ := hv
  refine ⟨_, c1, _, c2, rfl, hF, (fun e => by cases e), hR, (fun e => by cases e), ?_, ?_, ?_, ?_, ?_, ?_⟩
  · show h.method.toArray.size ≤ 30000
    rw [List.size_toArray]; have := hz.1; omega
  · show h.target.path.toArray.size ≤ 30000
    rw [List.size_toArray]; have := hz.2.1; omega
  · show h.target.query.toArray.size ≤ 30000
    rw [List.size_toArray]; have := hz.2.2; omega
  · intro x hx
    have h1 := fsz_mem (l := h.fields) hx
    have h2 := ho.1.ok.light.size
    omega
  · show h.fields.length ≤ 30000
    have := ho.1.ok.len; omega
  · show bb.length ≤ 30000
    have := ho.2; omega
theorem came_neat {T : List Ent} (hT : siteC T = 0) {h : Hd} {bb : Txt} (ho : PrsOk (.whole h bb)) : Neat (serveL T (rqOf (reqW h bb))) :=
  serve_neat T _ (table_of hT) ho.1.isx ho.1.ok.len ho.1.ok.light.size ho.2
def q0 (b : Txt) : Rq := ⟨⟨#[]⟩, 0, ⟨#[]⟩, ⟨#[]⟩, ⟨#[]⟩, 0, [], b, false, false⟩
set_option maxRecDepth 100000 in
set_option maxHeartbeats 16000000 in
theorem encodes20_any (w : World) (hg : G1 w) (At : Option Addr) (T : List Ent) (ct : Nat) (A : Option Addr) (b : List UInt8) (c : Nat) (hT : ArgE w At T ct) (hB : ArgB w A b c) :
    Calls Tryz.prog 3 #[.slice At T.length ct, .slice A b.length c] w fun e w' => e = .returned (.bool true) ∧ Sm No w w' := by
  have htl : (T.length : Int) ≤ 4398046511104 := by have := hT.2.1; have := hT.2.2.1; omega
  have hbl : (b.length : Int) ≤ 140737488351232 := by have := hB.2.1; have := hB.2.2.1; omega
  have HKn := Lib.hid (fun (W : World) (h : Sm No w W) => known20_any W (hg.no h))
  have HHv := Lib.hid (heavy20_any w At ct T hT (q0 b) none 0 A c ⟨⟨(fun k hk => absurd hk (Nat.not_lt_zero _)), Nat.zero_le _, Nat.zero_le _, (fun x hx => by cases hx), (fun _ => rfl)⟩, hB, Nat.zero_le _, Nat.zero_le _, Nat.zero_le _, Nat.zero_le _, by show (Lit.int .i64 0).wf = true; decide, by show (Lit.int .i64 0).wf = true; decide⟩)
  unfold reqV q0 at HHv
  dsimp only [List.length_nil] at HHv
  have HT := Lib.hid hT
  have HB := Lib.hid hB
  have HG := Lib.hid hg
  clear hT hB hg
  obtain ⟨n, hn⟩ : ∃ n, b.length = n := ⟨_, rfl⟩
  have HN := Lib.hid hn
  rw [hn] at hbl HHv ⊢
  clear hn
  go_enter Tryz.func3, Tryz.ntmps3
  go_wp2_with fail
  refine HHv.out.mono ?_
  rintro e w1 ⟨hv, rfl, hs1, hlight⟩
  have H1 := Lib.hid (And.intro hs1 hlight)
  clear hs1 hlight
  cases hv with
  | true =>
    go_wp2_with fail
    go_ret
    exact ⟨rfl, H1.out.1⟩
  | false =>
    have HLt := Lib.hid (H1.out.2 rfl)
    have hsm : SmallE T := fun x hx => by
      obtain ⟨a1, a2, a3⟩ := HLt.out.2.2.2.1 x hx
      exact ⟨by omega, by omega, by omega⟩
    have hTl : T.length ≤ 1000000 := by have := HLt.out.2.2.1; omega
    have hT0 : At = none → T.length = 0 ∧ ct = 0 := fun e => ⟨by have := HT.out.2.1; have := HT.out.2.2.2.2 e; omega, HT.out.2.2.2.2 e⟩
    have HSm := Lib.hid hsm
    have HT0 := Lib.hid hT0
    clear hsm hT0
    go_wp2_with fail
    refine (snew_any w1 (HG.out.no H1.out.1).1 At ct T (HT.out.1.no H1.out.1) HT0.out hTl HSm.out).mono ?_
    rintro e w2 hN
    obtain ⟨pv, rfl, hs2, hsite⟩ := new_uni hN
    have H2 := Lib.hid (And.intro (H1.out.1.trans hs2 (fun _ _ h => h)) (And.intro hsite hs2.size))
    clear hs2 hN hsite
    go_wp2_with fail
    refine (snewx_any w2 At ct T (HT.out.1.no H2.out.1) HT0.out hTl HSm.out).mono ?_
    rintro e w3 hN
    obtain ⟨px, rfl, hs3⟩ := newx_uni hN
    have H3 := Lib.hid (And.intro (H2.out.1.trans hs3 (fun _ _ h => h)) hs3)
    clear hs3 hN
    obtain ⟨sc, hsc⟩ : ∃ sc, siteC T = sc := ⟨_, rfl⟩
    have HSC := Lib.hid hsc
    rw [hsc]
    clear hsc
    go_wp2_with fail
    obtain ⟨g, hgz⟩ : ∃ g, w3.heap.size = g := ⟨_, rfl⟩
    rw [hgz]
    obtain ⟨w4, hw4⟩ : ∃ w4, (w3.alloc (.cells #[.int .i64 0, .int .i64 0, .pointer none, .slice none 0 0, .int .i64 0, .int .i64 0, .bool false, .bool false, .slice none 0 0, .pointer none, .bool false] 43)).alloc (.cells #[.slice A n c] 23) = w4 := ⟨_, rfl⟩
    have hs4 : Sm No w3 w4 := by rw [← hw4]; exact ((Sm.refl No w3).alloc _).alloc _
    have hp4 : Bk w4 g 43 #[.int .i64 0, .int .i64 0, .pointer none, .slice none 0 0, .int .i64 0, .int .i64 0, .bool false, .bool false, .slice none 0 0, .pointer none, .bool false] := by rw [← hw4, ← hgz]; exact (Bk.new w3 _ _).alloc _
    have hr4 : Bk w4 (g + 1) 23 #[.slice A n c] := by rw [← hw4]; exact Bk.newAt _ _ _ (by rw [← hgz]; simp)
    have hz4 : w4.heap.size = g + 2 := by rw [← hw4, ← hgz]; simp
    rw [hw4]
    have hgw : w.heap.size ≤ g := by rw [← hgz]; exact H3.out.1.size
    have hg2 : w2.heap.size ≤ g := by rw [← hgz]; exact H3.out.2.size
    have hI4 : IsPrs w4 (fun x => x = g) g .idle := ⟨⟨_, _, _, _, _, _, _, _, _, hp4⟩, rfl, fun x e => by omega⟩
    have hF := rFeed15_any w4 (fun x => x = g) g (g + 1) .idle A c b hI4 trivial hr4.lt (by omega) (by rw [HN.out]; exact hr4.at 0 rfl) (HB.out.1.no (H3.out.1.trans hs4 (fun _ _ h => h))) (fun a ha hne e => by
      cases hb0 : b with
      | nil => exact hne hb0
      | cons b0 br =>
        obtain ⟨b1, o1, e1, e2, _⟩ := HB.out.1 0 (.int .u8 b0.toNat) (by rw [hb0]; rfl)
        rw [ha] at e1
        injection e1 with e1
        rw [e1] at e
        have e : b1 = g := e
        omega) (by have := HLt.out.1; show b.length ≤ 1000000; have h : b.length ≤ 5000 := this; omega)
    have hok := feedW_ok b (s := .idle) trivial
    have hsz := feedW_sz b (s := .idle) trivial
    obtain ⟨P, hP⟩ : ∃ P, feedW .idle b = P := ⟨_, rfl⟩
    rw [hP] at hF hok hsz
    have HF := Lib.hid hF
    have HP := Lib.hid (And.intro hok hsz)
    have H4 := Lib.hid (And.intro (H3.out.1.trans hs4 (fun _ _ h => h)) (And.intro (H3.out.2.trans hs4 (fun _ _ h => h)) hz4))
    clear hF hok hsz hP hI4 hp4 hr4 hs4 hw4 hgz hz4
    refine HF.out.mono ?_
    rintro e w5 ⟨rfl, hI5, hs5⟩
    have H5 := Lib.hid (And.intro (H4.out.1.trans hs5 (fun x hx e => by omega)) (And.intro (H4.out.2.1.trans hs5 (fun x hx e => by omega)) (And.intro hI5 hs5.size)))
    clear hI5 hs5
    go_wp2_with fail
    by_cases hw : P.1.phase = 3
    · obtain ⟨h, bb, hPe⟩ : ∃ h bb, P.1 = .whole h bb := by
        cases hp : P.1 with
        | whole h bb => exact ⟨h, bb, rfl⟩
        | idle => rw [hp] at hw; exact absurd hw (by decide)
        | head a b => rw [hp] at hw; exact absurd hw (by show ¬ (1 : Int) = 3; decide)
        | len a b => rw [hp] at hw; exact absurd hw (by show ¬ (2 : Int) = 3; decide)
        | chunk a b c => rw [hp] at hw; exact absurd hw (by show ¬ (2 : Int) = 3; decide)
        | bad a => rw [hp] at hw; exact absurd hw (by show ¬ (4 : Int) = 3; decide)
      have HQ := Lib.hid (show PrsOk (.whole h bb) ∧ PrsSz (.whole h bb) from hPe ▸ HP.out)
      have hI5 := H5.out.2.2.1
      rw [hPe] at hI5
      refine (rTake_any w5 _ g h bb hI5 HQ.out.1).mono ?_
      rintro e w6 ⟨v, rfl, hv, hI6, hs6⟩
      clear hI5 hI6 hw hPe
      have hO : ∀ x, Oup (fun x => x = g) w4 w5 x → w2.heap.size ≤ x ∧ w.heap.size ≤ x := by
        have hz := H4.out.2.2
        rintro x (rfl | ⟨e, _⟩)
        · omega
        · omega
      have hs6w : Sm No w w6 := H5.out.1.trans hs6 (fun x hx e => by have := (hO x e).2; omega)
      have hs62 : Sm No w2 w6 := H5.out.2.1.trans hs6 (fun x hx e => by have := (hO x e).1; omega)
      have HNt := Lib.hid (fun (h0 : sc = 0) => came_neat (HSC.out.trans h0) HQ.out.1)
      have HMi := Lib.hid HQ.out.1.1.ok.minor
      obtain ⟨A1, c1, A2, c2, rfl, hq⟩ := rq_came HQ.out.1 HQ.out.2 hv
      have hmi : (rqOf (reqW h bb)).minor = h.minor := rfl
      obtain ⟨q, hqe⟩ : ∃ q, rqOf (reqW h bb) = q := ⟨_, rfl⟩
      rw [hqe] at hq hmi HNt ⊢
      rw [← hmi] at HMi
      obtain ⟨mB, fm, hB, pB, qB, mi, fl, bd, cl, ex⟩ := q
      unfold reqV
      dsimp only at HMi ⊢
      obtain ⟨nf, hnf⟩ : ∃ nf, fl.length = nf := ⟨_, rfl⟩
      obtain ⟨nb, hnb⟩ : ∃ nb, bd.length = nb := ⟨_, rfl⟩
      have HNF := Lib.hid (And.intro hnf hnb)
      rw [hnf, hnb]
      have H6 := Lib.hid (And.intro hs6w (And.intro hs62 hq))
      clear hv hs6 hO hs6w hs62 hq hmi hqe hnf hnb
      by_cases hf : sc = 0
      · have hfd : (sc != 0) = false := by simp [hf]
        have hfe : (sc == 0) = true := by simp [hf]
        have HNe := Lib.hid (HNt.out hf)
        obtain ⟨s, O, rfl, hS, hO⟩ := H2.out.2.1 (HSC.out.trans hf)
        have HS6 := Lib.hid (show IsSite w6 O s T from hS.no H6.out.2.1)
        have HT4 := Lib.hid (table_40 (HSC.out.trans hf))
        clear hf hS hO
        go_wp2_with fail
        obtain ⟨b7, hb7⟩ : ∃ b7, w6.heap.size = b7 := ⟨_, rfl⟩
        obtain ⟨w7, hw7⟩ : ∃ w7, w6.alloc (.cells #[.string mB, .int .i64 fm, .string hB, .string pB, .string qB, .int .i64 mi, .slice A1 nf c1, .slice A2 nb c2, .bool cl, .bool ex] 29) = w7 := ⟨_, rfl⟩
        have hs7 : Sm No w6 w7 := by rw [← hw7]; exact (Sm.refl No w6).alloc _
        have hq7 : Bk w7 b7 29 #[.string mB, .int .i64 fm, .string hB, .string pB, .string qB, .int .i64 mi, .slice A1 nf c1, .slice A2 nb c2, .bool cl, .bool ex] := by rw [← hw7, ← hb7]; exact Bk.new w6 _ _
        rw [hb7, hw7]
        have HC := Lib.hid (fun (W : World) (h : Sm No w7 W) => show W.cell? ⟨b7, 0, none⟩ = some (.string mB) ∧ W.cell? ⟨b7, 1, none⟩ = some (.int .i64 fm) ∧ W.cell? ⟨b7, 2, none⟩ = some (.string hB) ∧ W.cell? ⟨b7, 3, none⟩ = some (.string pB) ∧ W.cell? ⟨b7, 4, none⟩ = some (.string qB) ∧ W.cell? ⟨b7, 5, none⟩ = some (.int .i64 mi) ∧ W.cell? ⟨b7, 6, none⟩ = some (.slice A1 nf c1) ∧ W.cell? ⟨b7, 7, none⟩ = some (.slice A2 nb c2) ∧ W.cell? ⟨b7, 8, none⟩ = some (.bool cl) ∧ W.cell? ⟨b7, 9, none⟩ = some (.bool ex) from
          have q := hq7.sm h (fun e => e)
          ⟨q.at 0 rfl, q.at 1 rfl, q.at 2 rfl, q.at 3 rfl, q.at 4 rfl, q.at 5 rfl, q.at 6 rfl, q.at 7 rfl, q.at 8 rfl, q.at 9 rfl⟩)
        have H7 := Lib.hid (And.intro (H6.out.1.trans hs7 (fun _ _ h => h)) hs7)
        have HSv := Lib.hid (sserve_any w7.drew (HG.out.no (H6.out.1.trans hs7 (fun _ _ h => h)).drew) O s T (HS6.out.no hs7.drew) HT4.out HSm.out ⟨mB, fm, hB, pB, qB, mi, fl, bd, cl, ex⟩ A1 c1 A2 c2 ⟨H6.out.2.2.1.no hs7.drew, H6.out.2.2.2.1, H6.out.2.2.2.2.1.no hs7.drew, H6.out.2.2.2.2.2⟩)
        unfold reqV at HSv
        dsimp only at HSv
        rw [HNF.out.1, HNF.out.2] at HSv
        have k7 := HC.out _ (Sm.refl No w7)
        have k7d := HC.out _ (Sm.refl No w7).drew
        have kl7 := hq7.lt
        have HNe2 := Lib.hid (fun (W : World) (v : Value) (hR : RspV W w7.drew.heap.size v (serveL T ⟨mB, fm, hB, pB, qB, mi, fl, bd, cl, ex⟩)) hd => enc_neat hR HNe.out mi HMi.out hd cl)
        clear hs7 hw7 hb7 hq7
        go_region_held3 (fun w' => w'.cell? ⟨b7, 0, none⟩ = some (.string mB) ∧ w'.cell? ⟨b7, 1, none⟩ = some (.int .i64 fm) ∧ w'.cell? ⟨b7, 2, none⟩ = some (.string hB) ∧ w'.cell? ⟨b7, 3, none⟩ = some (.string pB) ∧ w'.cell? ⟨b7, 4, none⟩ = some (.string qB) ∧ w'.cell? ⟨b7, 5, none⟩ = some (.int .i64 mi) ∧ w'.cell? ⟨b7, 6, none⟩ = some (.slice A1 nf c1) ∧ w'.cell? ⟨b7, 7, none⟩ = some (.slice A2 nb c2) ∧ w'.cell? ⟨b7, 8, none⟩ = some (.bool cl) ∧ w'.cell? ⟨b7, 9, none⟩ = some (.bool ex)) (first | with_reducible exact k7d | with_reducible exact k7 | with_reducible exact k8 | with_reducible exact k9)
          (first
            | (go_at_call 15; refine HSv.out.mono ?_; rintro e w8 ⟨v8, rfl, hR8, hs8⟩; have k8 := HC.out _ ((Sm.refl No w7).drew.trans hs8 (fun _ _ h => h)); have HR8 := Lib.hid (And.intro hR8 ((Sm.refl No w7).drew.trans hs8 (fun _ _ h => h))); clear hR8 hs8)
            | (go_at_call 14; refine (HNe2.out _ _ HR8.out.1 _).mono ?_; rintro e w9 ⟨⟨v9, rfl⟩, hs9⟩; have k9 := HC.out _ (HR8.out.2.trans hs9 (fun _ _ h => h)); have HS9 := Lib.hid (HR8.out.2.trans hs9 (fun _ _ h => h)); clear hs9))
        all_goals
          have HS10 := Lib.hid (H7.out.1.trans HS9.out (fun _ _ h => h))
          go_wp2_with fail
          refine (HKn.out _ HS10.out).mono ?_
          rintro e w10 ⟨rfl, hs10⟩
          have H10 := Lib.hid (HS10.out.trans hs10 (fun _ _ h => h))
          clear hs10
          go_wp2_with fail
          go_ret
          exact ⟨rfl, H10.out⟩
      · have hfd : (sc != 0) = true := by simp [hf]
        have hfe : (sc == 0) = false := by simp [hf]
        clear hf
        go_wp2_with fail
        refine (HKn.out _ (H6.out.1.alloc _)).mono ?_
        rintro e w9 ⟨rfl, hs9⟩
        have H9 := Lib.hid ((H6.out.1.alloc _).trans hs9 (fun _ _ h => h))
        clear hs9
        go_wp2_with fail
        go_ret
        exact ⟨rfl, H9.out⟩
    · refine (rTake_no w5 _ g P.1 H5.out.2.2.1 hw).mono ?_
      rintro e w6 ⟨rfl, hs6⟩
      have H6 := Lib.hid (H5.out.1.trans hs6 (fun _ _ h => h))
      unfold zeroRq
      clear hs6 hw
      by_cases hf : sc = 0
      · have hfd : (sc != 0) = false := by simp [hf]
        have hfe : (sc == 0) = true := by simp [hf]
        clear hf
        go_wp2_with fail
        refine (HKn.out _ (H6.out.alloc _)).mono ?_
        rintro e w9 ⟨rfl, hs9⟩
        have H9 := Lib.hid ((H6.out.alloc _).trans hs9 (fun _ _ h => h))
        clear hs9
        go_wp2_with fail
        go_ret
        exact ⟨rfl, H9.out⟩
      · have hfd : (sc != 0) = true := by simp [hf]
        have hfe : (sc == 0) = false := by simp [hf]
        clear hf
        go_wp2_with fail
        refine (HKn.out _ (H6.out.alloc _)).mono ?_
        rintro e w9 ⟨rfl, hs9⟩
        have H9 := Lib.hid ((H6.out.alloc _).trans hs9 (fun _ _ h => h))
        clear hs9
        go_wp2_with fail
        go_ret
        exact ⟨rfl, H9.out⟩
end Go.Proofs.YtiglfbimijnpcaaGreatDoor

