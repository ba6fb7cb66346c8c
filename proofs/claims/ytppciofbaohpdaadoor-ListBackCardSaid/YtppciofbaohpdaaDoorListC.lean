/- Lists of tokens: list's Tokens. -/
import Derived.Test.YtppciofbaohpdaaDoorListB
import Derived.Test.YtppciofbaohpdaaDoorOpen
import Derived.Test.YtppciofbaohpdaaDoorFieldG
namespace Go.Proofs.YtppciofbaohpdaaDoor
open Go.RowKit Go.Proofs

def strV (l : List UInt8) : Value := .string ⟨l.toArray⟩
/-- v is a slice of a block of its own, not before block B, that holds just these texts. -/
def OwnT (w : World) (B : Nat) (v : Value) (l : List (List UInt8)) : Prop := w.ownsRow B 9 1 v l.length (l.map strV)
theorem OwnT.no {w w' : World} {B : Nat} {v : Value} {l : List (List UInt8)} (h : OwnT w B v l) (hs : Sm No w w') : OwnT w' B v l := own_row_sm h hs (fun _ _ h => h)
theorem OwnT.push {w : World} {B : Nat} {v : Value} {l : List (List UInt8)} {t : List UInt8} (h : w.ownsRow B 9 1 v (l.length + 1) (l.map strV ++ [strV t])) : OwnT w B v (l ++ [t]) := by
  unfold OwnT
  rw [List.length_append, List.map_append]
  exact h

/-- The one variable of the library's that strings.Split reads. -/
def G0 (w : World) : Prop := ∃ m, w.cell? ⟨0, 0, none⟩ = some (.int .i64 m)
theorem G0.no {w w' : World} (h : G0 w) (hs : Sm No w w') : G0 w' := by
  obtain ⟨m, hm⟩ := h
  exact ⟨m, hs.cell (World.block_lt_of_cell? w _ hm) hm⟩

theorem segsT_len (cur l : List UInt8) : ∀ p ∈ segsT cur l, p.length ≤ cur.length + l.length := by
  induction l generalizing cur with
  | nil => intro p hp; cases hp
  | cons c l ih =>
    intro p hp
    rw [segsT] at hp
    split at hp
    · rcases List.mem_cons.1 hp with rfl | hp
      · simp
      · have := ih [] p hp; simp at this ⊢; omega
    · have := ih _ p hp; simp at this ⊢; omega
theorem commaL_len {v p : List UInt8} (h : p ∈ commaL v) : p.length ≤ v.length + 1 := by
  have := segsT_len [] _ p h
  simpa using this
theorem segsT_many (cur l : List UInt8) : (segsT cur l).length ≤ l.length := by
  induction l generalizing cur with
  | nil => simp [segsT]
  | cons c l ih =>
    rw [segsT]
    split
    · have := ih []; simp; omega
    · have := ih (cur ++ [c]); simp; omega
theorem commaL_many (v : List UInt8) : (commaL v).length ≤ v.length + 1 := by
  have := segsT_many [] (v ++ [44])
  simpa [commaL] using this

theorem split_any (s : ByteArray) (hs : s.size ≤ 1000000) (w : World) (hg : G0 w) :
    Calls Tryd.prog 53 #[.string s, .string ⟨#[44]⟩] w fun e w' => ∃ ps : List ByteArray, ps.map (·.data.toList) = commaL s.data.toList ∧ e = .returned (.slice (some ⟨w.heap.size, 0, none⟩) ps.length ps.length) ∧
      SRow w' (some ⟨w.heap.size, 0, none⟩) ps ∧ Sm No w w' ∧ w.heap.size < w'.heap.size ∧ ∀ p ∈ ps, p.size ≤ s.size + 1 := by
  obtain ⟨m, hm⟩ := hg
  refine (Tryd.strings_Split s ⟨#[44]⟩ m w (by omega) hm (by decide)).mono fun e w' ⟨he, hw⟩ => ?_
  have hlen := Lib.splitB_all ⟨#[44]⟩ (by decide) 0 _ s rfl
  have hcm := split_comma s
  refine ⟨_, hcm, ?_, ?_, ?_, by rw [hw]; simp, ?_⟩
  · rw [hlen]; exact he
  · intro k hk
    subst hw
    have hb := Bk.new w 9 ((Lib.splitB ⟨#[44]⟩ 0 (Lib.countB s ⟨#[44]⟩) s).map Value.string).toArray
    exact ⟨w.heap.size, 0, rfl, hb.lt, by rw [Nat.zero_add]; exact hb.at k (by simp [hk])⟩
  · rw [hw]; exact (Sm.refl No w).alloc _
  · intro p hp
    have : p.data.toList ∈ commaL s.data.toList := by rw [← hcm]; exact List.mem_map.2 ⟨p, hp, rfl⟩
    have := commaL_len this
    rw [← size_toList', ← size_toList'] at this
    omega

def bytesL (vs : List ByteArray) : List (List UInt8) := vs.map (·.data.toList)
def TokPost (w : World) (vs : List ByteArray) (e : Ending) (w' : World) : Prop :=
  (∃ r v, tokensL (bytesL vs) = some r ∧ e = .returned (.tuple #[v, .bool true]) ∧ OwnT w' w.heap.size v r ∧ Sm No w w') ∨
  (tokensL (bytesL vs) = none ∧ e = .returned (.tuple #[.slice none 0 0, .bool false]) ∧ Sm No w w')

/-- What is left of the values behind the k-th. -/
def restL (vs : List ByteArray) (k : Nat) : List (List UInt8) := (bytesL (vs.drop k)).flatMap commaL
theorem restL_at {vs : List ByteArray} {k : Nat} (h : k < vs.length) : restL vs k = commaL vs[k].data.toList ++ restL vs (k + 1) := by
  unfold restL bytesL
  rw [List.drop_eq_getElem_cons h]
  rfl
theorem restL_end {vs : List ByteArray} {k : Nat} (h : ¬ k < vs.length) : restL vs k = [] := by
  unfold restL bytesL
  rw [List.drop_eq_nil_of_le (by omega)]
  rfl

def TokRel (w : World) (vs : List ByteArray) (l i : Value) (wr : World) : Prop :=
  ∃ (k : Nat) (acc : List (List UInt8)), k ≤ vs.length ∧ i = .int .i64 k ∧ tokensL (bytesL vs) = toksA acc (restL vs k) ∧ acc.length + (restL vs k).length ≤ 1000000 ∧ OwnT wr w.heap.size l acc ∧ Sm No w wr
def TokRel2 (w : World) (gp : Nat) (T : Option (List (List UInt8))) (ps : List ByteArray) (rest : List (List UInt8)) (l i : Value) (wr : World) : Prop :=
  ∃ (j : Nat) (acc : List (List UInt8)), j ≤ ps.length ∧ i = .int .i64 j ∧ T = toksA acc (bytesL (ps.drop j) ++ rest) ∧ acc.length + (bytesL (ps.drop j) ++ rest).length ≤ 1000000 ∧ OwnT wr w.heap.size l acc ∧ SRow wr (some ⟨gp, 0, none⟩) ps ∧ Sm No w wr ∧ l.ownBlock ≠ some gp ∧ gp < wr.heap.size
theorem bytes_at {ps : List ByteArray} {j : Nat} (h : j < ps.length) (rest : List (List UInt8)) : bytesL (ps.drop j) ++ rest = ps[j].data.toList :: (bytesL (ps.drop (j + 1)) ++ rest) := by
  unfold bytesL
  rw [List.drop_eq_getElem_cons h]
  rfl

theorem lower_say {s r : ByteArray} (h : Hid ((⟨(lowL s.data.toList).toArray⟩ : ByteArray) = r)) (hs : s.size ≤ 1000000) (w : World) : Calls Tryd.prog 55 #[.string s] w fun e w' => e = .returned (.string r) ∧ Sm No w w' := by
  rw [← h.out]; exact lower_any s hs w
theorem rLower_say {s r : ByteArray} (h : Hid ((⟨(lowL s.data.toList).toArray⟩ : ByteArray) = r)) (hs : s.size ≤ 1000000) (w : World) : Calls Tryd.prog 62 #[.string s] w fun e w' => e = .returned (.string r) ∧ Sm No w w' := by
  rw [← h.out]; exact rLower_any s hs w

set_option maxRecDepth 100000 in
set_option maxHeartbeats 8000000 in
theorem tokens_any (w : World) (A : Option Addr) (c : Nat) (vs : List ByteArray) (hg : G0 w) (hA : SRow w A vs) (hl : vs.length ≤ 1000000) (hs : ∀ s ∈ vs, s.size ≤ 900000) (ht : (restL vs 0).length ≤ 1000000) :
    Calls Tryd.prog 26 #[.slice A vs.length c] w (TokPost w vs) := by
  have HA := Lib.hid (And.intro hg (And.intro hA (And.intro hs ht)))
  clear hg hA hs ht
  go_enter Tryd.func26, Tryd.ntmps26
  go_wp2_with fail
  go_loopw [4, 11] (fun l i wr => TokRel w vs l i wr) (fun _ i _ => vs.length - (intOf i).toNat)
  case atStart => exact ⟨0, [], Nat.zero_le _, rfl, rfl, by simpa using HA.out.2.2.2, World.ownsRow_nil _ _ _ 1, Sm.refl _ _⟩
  case round =>
    obtain ⟨k, acc, hk, rfl, hT, hT2, hO, hsm⟩ := hrel
    obtain ⟨wo, rfl⟩ : ∃ wo : World, wo = wr := ⟨_, rfl⟩
    have HK := Lib.hid (And.intro hT (And.intro hT2 (And.intro hO hsm)))
    clear hT hT2 hO hsm
    by_cases hlt : k < vs.length
    · obtain ⟨bb, off, hAe, hbb, r0⟩ := (HA.out.2.1.no HK.out.2.2.2) k hlt
      subst hAe
      have s0 := HA.out.2.2.1 _ (List.getElem_mem hlt)
      have hrest := restL_at hlt
      obtain ⟨s, hsk⟩ : ∃ s, vs[k] = s := ⟨_, rfl⟩
      rw [hsk] at r0 s0 hrest
      have HR := Lib.hid hrest
      have k1 : (0 : Int) ≤ (k : Int) := by omega
      have k2 : (k : Int) < (vs.length : Int) := by omega
      clear hsk hrest
      go_wp2_with fail
      refine (split_any s (by omega) wo (HA.out.1.no HK.out.2.2.2)).mono ?_
      rintro e w1 ⟨ps, hps, rfl, hSR, hs1, hgp, hpz⟩
      have hT1 : tokensL (bytesL vs) = toksA acc (bytesL ps ++ restL vs (k + 1)) := by rw [HK.out.1, HR.out, ← hps]; rfl
      have hT2 : acc.length + (bytesL ps ++ restL vs (k + 1)).length ≤ 1000000 := by have := HK.out.2.1; rw [HR.out, ← hps] at this; exact this
      have hpl : ps.length ≤ 1000000 := by simp [bytesL] at hT2; omega
      have HP := Lib.hid (And.intro hT1 (And.intro hT2 (And.intro hSR (And.intro hs1 (And.intro hpz (And.intro (own_row_sm HK.out.2.2.1 hs1 (fun _ _ h => h)) (And.intro (HK.out.2.2.2.trans hs1 (fun _ _ h => h)) (And.intro (show u4.ownBlock ≠ some wo.heap.size from fun e => by have := (World.ownsRow.lt HK.out.2.2.1 _ e).2; omega) hgp))))))))
      clear hT1 hT2 hSR hs1 hpz hps hgp
      go_wp2_with fail
      go_loopw [4, 18] (fun l i wr' => TokRel2 w wo.heap.size (tokensL (bytesL vs)) ps (restL vs (k + 1)) l i wr') (fun _ i _ => ps.length - (intOf i).toNat)
      case atStart => exact ⟨0, acc, Nat.zero_le _, rfl, HP.out.1, HP.out.2.1, HP.out.2.2.2.2.2.1, HP.out.2.2.1, HP.out.2.2.2.2.2.2.1, HP.out.2.2.2.2.2.2.2.1, HP.out.2.2.2.2.2.2.2.2⟩
      case round =>
        obtain ⟨j, acc2, hj, rfl, hT, hT2, hO, hSR, hsm, hgp⟩ := hrel
        have HJ := Lib.hid (And.intro hT (And.intro hT2 (And.intro hO (And.intro hSR (And.intro hsm hgp)))))
        clear hT hT2 hO hSR hsm hgp
        by_cases hlt2 : j < ps.length
        · obtain ⟨b2, o2, hA2, hb2, r2⟩ := HJ.out.2.2.2.1 j hlt2
          injection hA2 with hA2
          injection hA2 with hA3 hA4
          subst hA3 hA4
          have s2 := HP.out.2.2.2.2.1 _ (List.getElem_mem hlt2)
          have hat := bytes_at hlt2 (restL vs (k + 1))
          obtain ⟨p, hp⟩ : ∃ s, ps[j] = s := ⟨_, rfl⟩
          rw [hp] at r2 s2 hat
          rw [Nat.zero_add] at r2
          obtain ⟨r, hr⟩ : ∃ r, (⟨(trimL p.data.toList).toArray⟩ : ByteArray) = r := ⟨_, rfl⟩
          have hrl : r.data.toList = trimL p.data.toList := by rw [← hr]
          have hrs : r.size ≤ 1000000 := by
            have h1 := trimL_le p.data.toList
            rw [size_toList', hrl]
            rw [size_toList'] at s2
            omega
          have HR2 := Lib.hid hr
          have HX := Lib.hid (And.intro hat hrl)
          have k3 : (0 : Int) ≤ (j : Int) := by omega
          have k4 : (j : Int) < (ps.length : Int) := by omega
          clear hp hat hr hrl
          go_wp2_with fail
          refine (trim_say HR2 (by omega) _).mono ?_
          rintro e w2 ⟨rfl, hs2⟩
          have HW := Lib.hid (And.intro (HJ.out.2.2.2.1.no hs2) (And.intro (own_row_sm HJ.out.2.2.1 hs2 (fun _ _ h => h)) (And.intro (HJ.out.2.2.2.2.1.trans hs2 (fun _ _ h => h)) (And.intro HJ.out.2.2.2.2.2.1 (Nat.lt_of_lt_of_le HJ.out.2.2.2.2.2.2 hs2.size)))))
          clear hs2
          by_cases hn : r.data.toList = []
          · have h1 : r.toList = [] := by rw [Go.ByteArray.toList_eq]; exact hn
            have h2 : r.toList.isEmpty = true := by rw [h1]; rfl
            have hT : tokensL (bytesL vs) = toksA acc2 (bytesL (ps.drop (j + 1)) ++ restL vs (k + 1)) := by rw [HJ.out.1, HX.out.1, toksA_blank _ _ (by rw [← HX.out.2]; exact hn)]
            have hT2 : acc2.length + (bytesL (ps.drop (j + 1)) ++ restL vs (k + 1)).length ≤ 1000000 := by have := HJ.out.2.1; rw [HX.out.1, List.length_cons] at this; omega
            have HT := Lib.hid (And.intro hT hT2)
            clear hT hT2 hn
            go_wp2_with fail
            exact ⟨⟨j + 1, acc2, by omega, by go_num, HT.out.1, HT.out.2, HW.out.2.1, HW.out.1, HW.out.2.2.1, HW.out.2.2.2⟩, by simp [intOf]; omega⟩
          · have h1 : ¬ r.toList = [] := by rw [Go.ByteArray.toList_eq]; exact hn
            have h2 : r.toList.isEmpty = false := by cases hq : r.toList with
              | nil => exact absurd hq h1
              | cons a l => rfl
            obtain ⟨f, hf⟩ : ∃ f, tokL r.data.toList = f := ⟨_, rfl⟩
            have HF := Lib.hid hf
            have HN := Lib.hid hn
            clear hf hn
            go_wp2_with fail
            refine (isToken_say HF hrs _).mono ?_
            rintro e w3 ⟨rfl, rfl⟩
            cases f
            · have hT : tokensL (bytesL vs) = none := by rw [HJ.out.1, HX.out.1, toksA_bad _ _ (by rw [← HX.out.2]; exact HN.out) (by rw [← HX.out.2]; exact HF.out)]
              have HT := Lib.hid hT
              clear hT
              go_wp2_with fail
              go_ret2
              exact Or.inr ⟨HT.out, rfl, HW.out.2.2.1⟩
            · obtain ⟨lw, hlw⟩ : ∃ x, (⟨(lowL r.data.toList).toArray⟩ : ByteArray) = x := ⟨_, rfl⟩
              have hT : tokensL (bytesL vs) = toksA (acc2 ++ [lowL r.data.toList]) (bytesL (ps.drop (j + 1)) ++ restL vs (k + 1)) := by
                rw [HJ.out.1, HX.out.1, toksA_tok _ _ (by rw [← HX.out.2]; exact HN.out) (by rw [← HX.out.2]; exact HF.out), HX.out.2]
              have hT2 : (acc2 ++ [lowL r.data.toList]).length + (bytesL (ps.drop (j + 1)) ++ restL vs (k + 1)).length ≤ 1000000 := by have := HJ.out.2.1; rw [HX.out.1, List.length_cons] at this; rw [List.length_append]; simp only [List.length_singleton]; omega
              have ha2 : acc2.length ≤ 1000000 := by have := HJ.out.2.1; omega
              have HT := Lib.hid (And.intro hT hT2)
              have HLW := Lib.hid hlw
              clear hT hT2 hlw
              go_wp2_with fail
              refine (lower_say HLW hrs _).mono ?_
              rintro e w4 ⟨rfl, hs4⟩
              have HW4 := Lib.hid (And.intro (HW.out.1.no hs4) (And.intro (own_row_sm HW.out.2.1 hs4 (fun _ _ h => h)) (And.intro (HW.out.2.2.1.trans hs4 (fun _ _ h => h)) (And.intro HW.out.2.2.2.1 (Nat.lt_of_lt_of_le HW.out.2.2.2.2 hs4.size)))))
              clear hs4
              go_wp2_with (refine wpList_push rfl _ _ 46 9 rfl Tryd.underlying46 _ 1 16 infoStr rfl (by decide) (by decide) w.heap.size _ u4 _ rfl (World.ownsRow.alloc HW4.out.2.1 _) w4.heap.size #[.string lw] rfl (Bk.new w4 _ _) rfl (by simp [Value.oneCell']) ha2 (by have := HW4.out.2.2.1.size; simp; omega) ?_; intro v' w5 hown5 hs5 hv5)
              have hO5 : OwnT w5 w.heap.size v' (acc2 ++ [lowL r.data.toList]) := by
                refine OwnT.push ?_
                rw [strV, HLW.out]
                exact hown5
              have hS5 : Sm No w w5 := (HW4.out.2.2.1.alloc (.cells #[.string lw] 9)).trans hs5 (fun b hb e => by
                have := (World.ownsRow.lt HW4.out.2.1 b e).1
                omega)
              have hR5 : SRow w5 (some ⟨wo.heap.size, 0, none⟩) ps := (HW4.out.1.no ((Sm.refl No w4).alloc (.cells #[.string lw] 9))).sm hs5 (fun a ha e => by
                injection ha with ha
                rw [← ha] at e
                exact HW4.out.2.2.2.1 e)
              have hN5 : v'.ownBlock ≠ some wo.heap.size := fun e => by
                rcases hv5 with g | g
                · exact HW4.out.2.2.2.1 (g ▸ e)
                · rw [g] at e
                  injection e with e
                  have := HW4.out.2.2.2.2
                  simp at e; omega
              have hG5 : wo.heap.size < w5.heap.size := by have := HW4.out.2.2.2.2; have := hs5.size; simp at this; omega
              have H5 := Lib.hid (And.intro hO5 (And.intro hR5 (And.intro hS5 (And.intro hN5 hG5))))
              clear hO5 hS5 hown5 hs5 hv5 hR5 hN5 hG5
              go_wp2_with fail
              exact ⟨⟨j + 1, acc2 ++ [lowL r.data.toList], by omega, by go_num, HT.out.1, HT.out.2, H5.out.1, H5.out.2.1, H5.out.2.2.1, H5.out.2.2.2⟩, by simp [intOf]; omega⟩
        · have hT : tokensL (bytesL vs) = toksA acc2 (restL vs (k + 1)) := by
            have := HJ.out.1
            rw [List.drop_eq_nil_of_le (by omega)] at this
            exact this
          have hT2 : acc2.length + (restL vs (k + 1)).length ≤ 1000000 := by
            have := HJ.out.2.1
            rw [List.drop_eq_nil_of_le (by omega)] at this
            exact this
          have HT := Lib.hid (And.intro hT hT2)
          clear hT hT2
          go_wp2_with fail
          exact ⟨⟨k + 1, acc2, by omega, by go_num, HT.out.1, HT.out.2, HJ.out.2.2.1, HJ.out.2.2.2.2.1⟩, by simp [intOf]; omega⟩
    · have hend : tokensL (bytesL vs) = some acc := by rw [HK.out.1, restL_end hlt]; rfl
      have HE := Lib.hid hend
      clear hend
      go_wp2_with fail
      go_ret2
      exact Or.inl ⟨acc, _, HE.out, rfl, HK.out.2.2.1, HK.out.2.2.2⟩
end Go.Proofs.YtppciofbaohpdaaDoor
