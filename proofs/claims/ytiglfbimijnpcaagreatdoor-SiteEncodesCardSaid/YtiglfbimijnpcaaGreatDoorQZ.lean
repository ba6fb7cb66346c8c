/- What is always so of a Parser. No program in sight. -/
/- How long the parts of a request are that came as bytes; no program in sight. -/
/- The document's Parser: any byte; Feed. -/
import Derived.Test.YtiglfbimijnpcaaGreatDoorQPrsY
namespace Go.Proofs.YtiglfbimijnpcaaGreatDoor
open Go.RowKit Go.Proofs

theorem lenT_bd {l : List Txt} {n : Int} (h : lenT l = (n, 0)) (hl : ∀ x ∈ l, x.length ≤ 100000) : 0 ≤ n ∧ n ≤ 2048 := by
  unfold lenT at h
  split at h
  · injection h with _ h; (first | exact absurd h (by decide) | simp at h)
  · rename_i t r
    split at h
    · split at h
      · injection h with _ h; (first | exact absurd h (by decide) | simp at h)
      · injection h with h _
        rename_i g
        have := numD_bd t (hl t (by simp))
        omega
    · injection h with _ h; (first | exact absurd h (by decide) | simp at h)
theorem kindW_ok {m : Int} {fs : List Fld} (hL : LightF fs) (h : (kindW m fs).2.2 = 0) : ((kindW m fs).1 = 0 ∨ (kindW m fs).1 = 1 ∨ (kindW m fs).1 = 2) ∧ 0 ≤ (kindW m fs).2.1 ∧ (kindW m fs).2.1 ≤ 2048 := by
  by_cases h1 : 0 < (valuesL fs nCod).length
  · rw [kindW_cod h1]; exact ⟨Or.inr (Or.inr rfl), Int.le_refl 0, by show (0 : Int) ≤ 2048; decide⟩
  · by_cases h2 : 0 < (valuesL fs nLen).length
    · rw [kindW_len h1 h2] at h ⊢
      refine ⟨Or.inr (Or.inl rfl), ?_⟩
      have hlt := hL.light nLen
      dsimp only at h ⊢
      unfold lenW at h ⊢
      cases ht : tokensL (bytesL (valuesL fs nLen)) with
      | none => rw [ht] at h; (first | exact absurd h (by decide) | simp at h)
      | some l =>
        rw [ht] at h
        dsimp only at h ⊢
        have e : lenT l = ((lenT l).1, 0) := by rw [← h]
        exact lenT_bd e (fun x hx => Nat.le_trans (hlt.toks ht x hx) (by decide))
    · rw [kindW_no h1 h2]; exact ⟨Or.inl rfl, Int.le_refl 0, by show (0 : Int) ≤ 2048; decide⟩
/-- How a request goes on, if it may. -/
structure HowOk (h : HowW) : Prop where
  kind : h.kind = 0 ∨ h.kind = 1 ∨ h.kind = 2
  lo : 0 ≤ h.len
  hi : h.len ≤ 2048
theorem howW_ok {m : Int} {fs : List Fld} (hL : LightF fs) (h : (howW m fs).2 = 0) : HowOk (howW m fs).1 := by
  cases h1 : hostW m (valuesL fs nHost) with
  | false => rw [howW_host h1] at h; (first | exact absurd h (by decide) | simp at h)
  | true =>
    by_cases h2 : (kindW m fs).2.2 = 0
    · obtain ⟨g1, g2, g3⟩ := kindW_ok hL h2
      by_cases h3 : tokensL (bytesL (valuesL fs nCon)) = none
      · rw [howW_con h1 h2 h3] at h; (first | exact absurd h (by decide) | simp at h)
      · rw [howW_end h1 h2 h3] at h ⊢
        split at h
        · rename_i g
          rw [if_pos g]
          split at h
          · (first | exact absurd h (by decide) | simp at h)
          · rename_i g4
            rw [if_neg g4]
            exact ⟨g1, g2, g3⟩
        · rename_i g
          rw [if_neg g]
          exact ⟨g1, g2, g3⟩
    · rw [howW_kind h1 h2] at h; exact absurd h h2
/-- What is always so of a head that may go on, fields that are fields besides. -/
structure HdGo (h : Hd) : Prop where
  ok : HdOk h
  isx : ∀ x ∈ h.fields, isX x = true
theorem hdGo_new : HdGo Hd.new := ⟨⟨by decide, by decide, by decide, by decide, Or.inl rfl⟩, fun x hx => by cases hx⟩
theorem addL_put {fs : List Fld} {x : Fld} (h : (addL fs [x]).2.2 = 0) : (addL fs [x]).1 = fs ++ [x] ∧ isX x = true ∧ fs.length < 24 := by
  unfold addL at h ⊢
  by_cases h1 : isX x = false
  · rw [if_pos h1] at h; (first | exact absurd h (by decide) | simp at h)
  · rw [if_neg h1] at h ⊢
    by_cases h2 : 24 ≤ fs.length
    · rw [if_pos h2] at h; (first | exact absurd h (by decide) | simp at h)
    · rw [if_neg h2]
      exact ⟨rfl, by simpa using h1, by omega⟩
theorem startW_ok {h : Hd} {l : List Txt} (ho : HdGo h) (hz : (startW h l).2 = 0) : HdGo (startW h l).1 ∧ (startW h l).1.whole = h.whole := by
  by_cases h3 : l.length = 3
  · obtain ⟨m, s, v, rfl⟩ := three h3
    cases ht : tokL m with
    | false => rw [startW_tok ht] at hz; (first | exact absurd hz (by decide) | simp at hz)
    | true =>
      by_cases hv : (verW v).1 = 0
      · rw [startW_end ht hv] at hz ⊢
        cases hT : tgtL m s with
        | mk o c =>
          rw [hT] at hz
          cases o with
          | none =>
            dsimp only at hz
            split at hz <;> (first | exact absurd hz (by decide) | simp at hz)
          | some t =>
            dsimp only
            refine ⟨⟨⟨ho.ok.len, ho.ok.size, ho.ok.bytes, ho.ok.empty, ?_⟩, ho.isx⟩, rfl⟩
            unfold startH
            dsimp only
            split
            · exact ho.ok.minor
            · exact Or.inr rfl
      · rw [startW_ver ht hv] at hz; exact absurd hz hv
  · rw [startW_len h3] at hz; (first | exact absurd hz (by decide) | simp at hz)
theorem HdGo.more {h : Hd} (ho : HdGo h) {n : Nat} (hn : ¬ 1024 < h.bytes + n + 2) : HdGo (h.more n) :=
  ⟨⟨ho.ok.len, by show fsz h.fields ≤ h.bytes + n + 2; have := ho.ok.size; omega, by show h.bytes + n + 2 ≤ 1024; omega, ho.ok.empty, ho.ok.minor⟩, ho.isx⟩
theorem fldW_ok {h : Hd} {s : Txt} (ho : HdGo h) (hn : ¬ 1024 < h.bytes + s.length + 2) (hz : (fldW (h.more s.length) s).2 = 0) : HdGo (fldW (h.more s.length) s).1 ∧ (fldW (h.more s.length) s).1.whole = h.whole := by
  have hm := ho.more hn
  unfold fldW at hz ⊢
  split at hz
  · (first | exact absurd hz (by decide) | simp at hz)
  · rename_i g
    rw [if_neg g]
    obtain ⟨⟨pe, pn, pv⟩, hp⟩ : ∃ P, parseL s = P := ⟨_, rfl⟩
    rw [hp] at hz ⊢
    dsimp only at hz ⊢
    split at hz
    · (first | exact absurd hz (by decide) | simp at hz)
    · rename_i g2
      have g3 : (addL (h.more s.length).fields [((⟨pn.toArray⟩ : ByteArray), (⟨pv.toArray⟩ : ByteArray))]).2.2 = 0 := by simpa using g2
      obtain ⟨a1, a2, a3⟩ := addL_put g3
      have hb := parseL_bd hp
      rw [a1]
      refine ⟨⟨⟨?_, ?_, hm.ok.bytes, hm.ok.empty, hm.ok.minor⟩, ?_⟩, rfl⟩
      · show ((h.more s.length).fields ++ _).length ≤ 24
        rw [List.length_append]
        simp only [List.length_singleton]
        omega
      · show fsz ((h.more s.length).fields ++ _) ≤ (h.more s.length).bytes
        rw [fsz_snoc]
        have e1 : (⟨pn.toArray⟩ : ByteArray).size = pn.length := by show pn.toArray.size = _; simp
        have e2 : (⟨pv.toArray⟩ : ByteArray).size = pv.length := by show pv.toArray.size = _; simp
        dsimp only
        rw [e1, e2]
        show fsz h.fields + _ ≤ h.bytes + s.length + 2
        have := ho.ok.size
        omega
      · intro x hx
        rcases List.mem_append.1 hx with hx | hx
        · exact ho.isx x hx
        · rw [List.mem_singleton.1 hx]; exact a2
theorem lineS_ok {h : Hd} {s : Txt} (ho : HdGo h) (hw : h.whole = false) (hz : (lineS h s).2 = 0) : HdGo (lineS h s).1 ∧ ((lineS h s).1.whole = true → HowOk (lineS h s).1.how) := by
  have hlong : h.long ≠ 0 := by unfold Hd.long; split <;> decide
  unfold lineS at hz ⊢
  split at hz
  · exact absurd hz hlong
  · rename_i g1
    rw [if_neg g1]
    split at hz
    · exact absurd hz hlong
    · rename_i g2
      rw [if_neg g2]
      split at hz
      · rename_i g3
        rw [if_pos g3]
        split at hz
        · rename_i g4
          rw [if_pos g4]
          split at hz
          · (first | exact absurd hz (by decide) | simp at hz)
          · rename_i g5
            have hm := ho.more (n := 0) (by rw [g4] at g2; exact g2)
            refine ⟨⟨⟨hm.ok.len, hm.ok.size, hm.ok.bytes, by show h.empty + 1 ≤ 4; omega, hm.ok.minor⟩, hm.isx⟩, fun e => ?_⟩
            have : h.whole = true := e
            rw [hw] at this; cases this
        · rename_i g4
          rw [if_neg g4]
          obtain ⟨a, b⟩ := startW_ok (ho.more g2) hz
          refine ⟨a, fun e => ?_⟩
          rw [b] at e
          have : h.whole = true := e
          rw [hw] at this; cases this
      · rename_i g3
        rw [if_neg g3]
        split at hz
        · rename_i g4
          rw [if_pos g4]
          have hm := ho.more (n := 0) (by rw [g4] at g2; exact g2)
          exact ⟨⟨⟨hm.ok.len, hm.ok.size, hm.ok.bytes, hm.ok.empty, hm.ok.minor⟩, hm.isx⟩, fun _ => howW_ok ho.ok.light hz⟩
        · rename_i g4
          rw [if_neg g4]
          obtain ⟨a, b⟩ := fldW_ok ho g2 hz
          refine ⟨a, fun e => ?_⟩
          rw [b, hw] at e; cases e
def PrsOk : PrS → Prop
  | .idle => True
  | .head h L => HdGo h ∧ HeadOk h L
  | .len h b => HdGo h ∧ h.how.kind = 1 ∧ (b.length : Int) < h.how.len ∧ h.how.len ≤ 2048
  | .chunk h b p => HdGo h ∧ h.how.kind = 2 ∧ RdOk b p
  | .whole h b => HdGo h ∧ b.length ≤ 2048
  | .bad _ => True
theorem beginW_ok {h : Hd} (ho : HdGo h) (hh : HowOk h.how) : PrsOk (beginW h) := by
  by_cases h0 : h.how.kind = 0 ∨ (h.how.kind = 1 ∧ h.how.len = 0)
  · rw [beginW_0 h0]; exact ⟨ho, Nat.zero_le _⟩
  · by_cases h1 : h.how.kind = 1
    · rw [beginW_1 h0 h1]
      refine ⟨ho, h1, ?_, hh.hi⟩
      have h2 : h.how.len ≠ 0 := fun e => h0 (Or.inr ⟨h1, e⟩)
      have := hh.lo
      show (0 : Int) < _
      omega
    · rw [beginW_2 h0 h1]
      refine ⟨ho, ?_, ⟨Nat.zero_le _, Nat.zero_le 65⟩⟩
      rcases hh.kind with e | e | e
      · exact absurd (Or.inl e) h0
      · exact absurd e h1
      · exact e
theorem lineW_eq {h : Hd} {s : Txt} (hw : h.whole = false) (hs : h.status = 0) : lineW h s = { (lineS h s).1 with status := (lineS h s).2 } := by unfold lineW; rw [if_pos ⟨hw, hs⟩]
theorem headW_ok {h : Hd} {L : Txt} {c : UInt8} (hg : HdGo h) (ho : HeadOk h L) : PrsOk (headW h L c) := by
  unfold headW
  split
  · split
    · trivial
    · rename_i s hs
      rw [lineW_eq ho.whole ho.status]
      dsimp only
      split
      · trivial
      · rename_i g
        have hz : (lineS h s).2 = 0 := by simpa using g
        obtain ⟨a, b⟩ := lineS_ok hg ho.whole hz
        have a2 : HdGo { (lineS h s).1 with status := (lineS h s).2 } := ⟨⟨a.ok.len, a.ok.size, a.ok.bytes, a.ok.empty, a.ok.minor⟩, a.isx⟩
        split
        · rename_i hw
          exact beginW_ok a2 (b hw)
        · rename_i hw
          refine ⟨a2, a2.ok, Nat.zero_le _, ?_, hz⟩
          cases e : (lineS h s).1.whole with
          | true => exact absurd e hw
          | false => rfl
  · split
    · trivial
    · rename_i g
      exact ⟨hg, ho.ok, cnt_le g, ho.whole, ho.status⟩
theorem oneW_ok {s : PrS} {c : UInt8} (h : PrsOk s) : PrsOk (oneW s c) := by
  cases s with
  | idle => exact headW_ok hdGo_new ⟨hdGo_new.ok, Nat.zero_le _, rfl, rfl⟩
  | head h' L => exact headW_ok h.1 h.2
  | len h' b =>
    obtain ⟨h1, h2, h3, h4⟩ := h
    show PrsOk (if ((b.length + 1 : Nat) : Int) = h'.how.len then .whole h' (b ++ [c]) else .len h' (b ++ [c]))
    split
    · refine ⟨h1, ?_⟩
      rw [List.length_append, List.length_singleton]; omega
    · refine ⟨h1, h2, ?_, h4⟩
      rw [List.length_append, List.length_singleton]; omega
  | chunk h' b p =>
    obtain ⟨h1, h2, h3⟩ := h
    show PrsOk (chunkW h' (rdW b p c))
    cases hq : rdW b p c with
    | «at» b' p' => exact ⟨h1, h2, rdW_ok h3 hq⟩
    | whole b' => exact ⟨h1, by rw [rdW_whole hq]; exact h3.body⟩
    | bad st => trivial
  | whole h' b => exact h
  | bad st => exact h
theorem feedW_ok : ∀ (t : Txt) {s : PrS}, PrsOk s → PrsOk (feedW s t).1
  | [], s, h => h
  | c :: r, s, h => by
    cases hd : s.done with
    | true => rw [feedW_done hd]; exact h
    | false => rw [feedW_step hd]; exact feedW_ok r (oneW_ok h)
end Go.Proofs.YtiglfbimijnpcaaGreatDoor

namespace Go.Proofs.YtiglfbimijnpcaaGreatDoor
open Go.RowKit Go.Proofs

theorem wt_fold : ∀ (ps l r : List Txt), foldC (some l) ps = some r → wt r ≤ wt l + wt ps
  | [], l, r, h => by
    injection h with h
    subst h
    simp [wt]
  | p :: ps, l, r, h => by
    rw [foldC_cons] at h
    rw [wt_cons]
    unfold stepC at h
    dsimp only at h
    split at h
    · have := wt_fold ps l r h; omega
    · split at h
      · split at h
        · rw [foldC_none] at h; cases h
        · have := wt_fold ps _ r h; have := wt_drop l; omega
      · have := wt_fold ps _ r h
        rw [wt_push] at this
        omega
theorem cleanL_le {s p : Txt} (h : cleanL s = some p) : p.length ≤ s.length + 2 := by
  unfold cleanL at h
  split at h
  · cases hf : foldC (some []) (cutsL 47 s) with
    | none => rw [hf] at h; cases h
    | some l =>
      rw [hf] at h
      injection h with h
      subst h
      have h1 := wt_fold _ _ _ hf
      have h2 := wt_cuts s
      have h3 : (outC l).length = wt l := outC_len l
      have h4 : wt ([] : List Txt) = 0 := rfl
      show (endC ((cutsL 47 s).getLastD []) (outC l)).length ≤ s.length + 2
      unfold endC
      split
      · rw [List.length_append, List.length_singleton]; omega
      · omega
  · cases h
theorem orgL_le {s p q : Txt} (h : orgL s = some (p, q)) : p.length ≤ s.length + 2 ∧ q.length ≤ s.length := by
  unfold orgL at h
  split at h
  · unfold orgD at h
    cases hd : decL (s.takeWhile noQ) with
    | none => rw [hd] at h; cases h
    | some d =>
      rw [hd] at h
      dsimp only at h
      have h1 := decL_len _ _ d (Nat.le_refl _) hd
      have h2 : (s.takeWhile noQ).length ≤ s.length := (List.takeWhile_prefix noQ).length_le
      unfold orgC at h
      cases hc : cleanL d with
      | none => rw [hc] at h; cases h
      | some x =>
        rw [hc] at h
        injection h with h
        injection h with ha hb
        subst ha hb
        have h3 := cleanL_le hc
        refine ⟨by omega, ?_⟩
        rw [List.length_drop]
        omega
  · cases h
theorem absR_le (r : Txt) : (absR r).length ≤ r.length + 1 := by
  unfold absR
  split
  · simp
  · simp
theorem tgtL_le {m s : Txt} {t : Tg} {c : Int} (h : tgtL m s = (some t, c)) : t.path.length ≤ 210 ∧ t.query.length ≤ 210 := by
  unfold tgtL at h
  split at h
  · cases h
  · rename_i hl
    split at h
    · split at h
      · injection h with h; injection h with h; subst h; exact ⟨Nat.zero_le _, Nat.zero_le _⟩
      · cases h
    · split at h
      · injection h with h; injection h with h; subst h; exact ⟨Nat.zero_le _, Nat.zero_le _⟩
      · split at h
        · split at h
          · rename_i p q ho
            injection h with h; injection h with h; subst h
            have := orgL_le ho
            exact ⟨by show p.length ≤ 210; omega, by show q.length ≤ 210; omega⟩
          · cases h
        · split at h
          · injection h with h _
            unfold absL at h
            split at h
            · unfold absO at h
              cases ho : orgL (absR ((s.drop 7).drop ((s.drop 7).takeWhile absB).length)) with
              | none => rw [ho] at h; cases h
              | some x =>
                obtain ⟨p, q⟩ := x
                rw [ho] at h
                injection h with h
                subst h
                have h1 := orgL_le ho
                have h2 : (absR ((s.drop 7).drop ((s.drop 7).takeWhile absB).length)).length ≤ s.length + 1 := by
                  have h3 : ((s.drop 7).drop ((s.drop 7).takeWhile absB).length).length ≤ s.length := by rw [List.length_drop, List.length_drop]; omega
                  exact Nat.le_trans (absR_le _) (by omega)
                exact ⟨by show p.length ≤ 210; omega, by show q.length ≤ 210; omega⟩
            · cases h
          · cases h
/-- Its texts are short. -/
def HdSz (h : Hd) : Prop := h.method.length ≤ 300 ∧ h.target.path.length ≤ 300 ∧ h.target.query.length ≤ 300
theorem startW_sz {h : Hd} {s : Txt} (ho : HdSz h) (hs : s.length ≤ 256) : HdSz (startW h (spcL s)).1 := by
  by_cases h3 : (spcL s).length = 3
  · obtain ⟨m, t, v, he⟩ := three h3
    have hm : m.length ≤ s.length + 1 := spcL_len (by rw [he]; simp)
    rw [he]
    cases ht : tokL m with
    | false => rw [startW_tok ht]; exact ho
    | true =>
      by_cases hv : (verW v).1 = 0
      · rw [startW_end ht hv]
        cases hT : tgtL m t with
        | mk o c =>
          cases o with
          | none => exact ho
          | some t' =>
            have := tgtL_le hT
            exact ⟨by show m.length ≤ 300; omega, by show t'.path.length ≤ 300; omega, by show t'.query.length ≤ 300; omega⟩
      · rw [startW_ver ht hv]; exact ho
  · rw [startW_len h3]; exact ho
theorem lineW_sz {h : Hd} {s : Txt} (ho : HdSz h) : HdSz (lineW h s) := by
  unfold lineW
  split
  · show HdSz { (lineS h s).1 with status := (lineS h s).2 }
    have h1 : HdSz (lineS h s).1 := by
      unfold lineS
      split
      · exact ho
      · split
        · exact ho
        · split
          · split
            · exact ho
            · exact startW_sz (h := h.more s.length) ho (by omega)
          · split
            · exact ho
            · unfold fldW
              split
              · exact ho
              · exact ho
    exact h1
  · exact ho
def PrsSz : PrS → Prop
  | .head h _ => HdSz h
  | .len h _ => HdSz h
  | .chunk h _ _ => HdSz h
  | .whole h _ => HdSz h
  | _ => True
theorem beginW_sz {h : Hd} (ho : HdSz h) : PrsSz (beginW h) := by
  unfold beginW
  split
  · exact ho
  · split
    · exact ho
    · exact ho
theorem headW_sz {h : Hd} {L : Txt} {c : UInt8} (ho : HdSz h) : PrsSz (headW h L c) := by
  unfold headW
  split
  · split
    · trivial
    · split
      · trivial
      · split
        · exact beginW_sz (lineW_sz ho)
        · exact lineW_sz ho
  · split
    · trivial
    · exact ho
theorem oneW_sz {s : PrS} {c : UInt8} (h : PrsSz s) : PrsSz (oneW s c) := by
  cases s with
  | idle => exact headW_sz ⟨by decide, by decide, by decide⟩
  | head h' L => exact headW_sz h
  | len h' b =>
    show PrsSz (if ((b.length + 1 : Nat) : Int) = h'.how.len then .whole h' (b ++ [c]) else .len h' (b ++ [c]))
    split <;> exact h
  | chunk h' b p =>
    show PrsSz (chunkW h' (rdW b p c))
    cases rdW b p c with
    | «at» b' p' => exact h
    | whole b' => exact h
    | bad st => trivial
  | whole h' b => exact h
  | bad st => exact h
theorem feedW_sz : ∀ (t : Txt) {s : PrS}, PrsSz s → PrsSz (feedW s t).1
  | [], s, h => h
  | c :: r, s, h => by
    cases hd : s.done with
    | true => rw [feedW_done hd]; exact h
    | false => rw [feedW_step hd]; exact feedW_sz r (oneW_sz h)
end Go.Proofs.YtiglfbimijnpcaaGreatDoor

namespace Go.Proofs.YtiglfbimijnpcaaGreatDoor
open Go.RowKit Go.Proofs

theorem IsPrs.ph {w : World} {O : Nat → Prop} {g : Nat} {s : PrS} (h : IsPrs w O g s) : ∃ hd ln k l c x vB ch cm, PrsK w g s.phase s.status hd ln k l c x vB ch cm := by
  obtain ⟨q, _, _⟩ := h
  cases s with
  | idle => obtain ⟨a1, a2, a3, a4, a5, a6, a7, a8, a9, h⟩ := q; exact ⟨_, _, _, _, _, _, _, _, _, h⟩
  | head h' L => obtain ⟨a1, a2, a3, a4, a5, a6, a7, a8, a9, a10, h, _⟩ := q; exact ⟨_, _, _, _, _, _, _, _, _, h⟩
  | len h' b => obtain ⟨a1, a2, a3, a4, a5, h, _⟩ := q; exact ⟨_, _, _, _, _, _, _, _, _, h⟩
  | chunk h' b p => obtain ⟨a1, a2, a3, a4, a5, a6, h, _⟩ := q; exact ⟨_, _, _, _, _, _, _, _, _, h⟩
  | whole h' b => obtain ⟨a1, a2, a3, a4, a5, a6, h, _⟩ := q; exact ⟨_, _, _, _, _, _, _, _, _, h⟩
  | bad st => obtain ⟨a1, a2, a3, a4, a5, a6, a7, a8, a9, h⟩ := q; exact ⟨_, _, _, _, _, _, _, _, _, h⟩
set_option maxRecDepth 100000 in
set_option maxHeartbeats 8000000 in
/-- In a body the byte is handed on. -/
theorem po_body (w : World) (O : Nat → Prop) (g : Nat) (c : UInt8) (s s' : PrS) (hI : IsPrs w O g s) (h2 : s.phase = 2) (hm : Calls Tryz.prog 69 #[.pointer (some ⟨g, 0, none⟩), .int .u8 c.toNat] w (PrsPost w O g s')) :
    Calls Tryz.prog 31 #[.pointer (some ⟨g, 0, none⟩), .int .u8 c.toNat] w (PrsPost w O g s') := by
  obtain ⟨hd, ln, k, l, cl, x, vB, ch, cm, hK⟩ := hI.ph
  rw [h2] at hK
  have hgl := Bk.lt hK
  have hc := Bk.all hK
  have HM := Lib.hid hm
  clear hI h2 hK hm
  go_enter Tryz.func31, Tryz.ntmps31
  go_wp2_with fail
  refine HM.out.mono ?_
  rintro e w2 ⟨rfl, h2⟩
  have H2 := Lib.hid h2
  clear h2 hc
  go_wp2_with fail
  go_end0
  exact ⟨rfl, H2.out⟩
theorem headW_e0 {h : Hd} {L : Txt} {c : UInt8} (hc : c = 10) (h13 : ¬ L.getLast? = some 13) : headW h L c = .bad 400 := by unfold headW; rw [if_pos hc, lineEnd_none h13]
theorem headW_ey {h : Hd} {L : Txt} {c : UInt8} (hc : c = 10) (h13 : L.getLast? = some 13) : headW h L c = if (lineW h L.dropLast).status ≠ 0 then .bad (lineW h L.dropLast).status else if (lineW h L.dropLast).whole = true then beginW (lineW h L.dropLast) else .head (lineW h L.dropLast) [] := by unfold headW; rw [if_pos hc, lineEnd_yes h13]
theorem headW_no {h : Hd} {L : Txt} {c : UInt8} (hc : ¬ c = 10) : headW h L c = if 256 < cntW L c then .bad h.long else .head h (L ++ [c]) := by unfold headW; rw [if_neg hc]
theorem rOne15_any (w : World) (O : Nat → Prop) (g : Nat) (c : UInt8) (s : PrS) (hI : IsPrs w O g s) (ho : PrsOk s) (hd : s.done = false) :
    Calls Tryz.prog 31 #[.pointer (some ⟨g, 0, none⟩), .int .u8 c.toNat] w (PrsPost w O g (oneW s c)) := by
  cases s with
  | idle =>
    show Calls _ _ _ _ (PrsPost w O g (headW Hd.new [] c))
    by_cases h10 : c = 10
    · rw [headW_e0 h10 (by simp)]; exact po_i10 w O g c hI h10
    · rw [headW_no h10]
      by_cases h13 : c = 13
      · rw [if_neg (by unfold cntW; rw [if_pos h13]; decide)]; exact po_i13 w O g c hI h13
      · rw [if_neg (by unfold cntW; rw [if_neg h13]; decide)]; exact po_ix w O g c hI h10 h13
  | head h L =>
    show Calls _ _ _ _ (PrsPost w O g (headW h L c))
    have hh := ho.2
    by_cases h10 : c = 10
    · by_cases hl : L.getLast? = some 13
      · rw [headW_ey h10 hl]; exact po_ey w O g c h L hI hh hl h10
      · rw [headW_e0 h10 hl]
        by_cases h0 : L.length = 0
        · have := List.eq_nil_of_length_eq_zero h0
          subst this
          exact po_ez w O g c h hI h10
        · exact po_en w O g c h L hI hh (by omega) (last_ne hl) h10
    · rw [headW_no h10]
      by_cases h13 : c = 13
      · have e : cntW L c = L.length := by unfold cntW; rw [if_pos h13]
        rw [e]
        by_cases hk : 256 < L.length
        · rw [if_pos hk]
          cases hst : h.started with
          | true => rw [show h.long = 431 from by unfold Hd.long; rw [if_pos hst]]; exact po_r_true w O g c h L hI hh h13 hk hst
          | false => rw [show h.long = 414 from by unfold Hd.long; rw [if_neg (by rw [hst]; decide)]]; exact po_r_false w O g c h L hI hh h13 hk hst
        · rw [if_neg hk]; exact po_r_ok w O g c h L hI hh h13 hk
      · have e : cntW L c = L.length + 1 := by unfold cntW; rw [if_neg h13]
        rw [e]
        by_cases hk : 256 < L.length + 1
        · rw [if_pos hk]
          cases hst : h.started with
          | true => rw [show h.long = 431 from by unfold Hd.long; rw [if_pos hst]]; exact po_n_true w O g c h L hI hh h10 h13 hk hst
          | false => rw [show h.long = 414 from by unfold Hd.long; rw [if_neg (by rw [hst]; decide)]]; exact po_n_false w O g c h L hI hh h10 h13 hk hst
        · rw [if_neg hk]; exact po_n_ok w O g c h L hI hh h10 h13 hk
  | len h b => exact po_body w O g c _ _ hI rfl (rMoreLen_any w O g h b c hI ho.2.1 (by have := ho.2.2.1; have := ho.2.2.2; omega))
  | chunk h b p => exact po_body w O g c _ _ hI rfl (rMoreChunk_any w O g h b p c hI ho.2.1 ho.2.2)
  | whole h b => cases hd
  | bad st => cases hd
theorem IsPrs.no {w w' : World} {O : Nat → Prop} {g : Nat} {s : PrS} (h : IsPrs w O g s) (hs : Sm No w w') : IsPrs w' O g s := by
  refine ⟨?_, h.og, fun x hx => Nat.lt_of_lt_of_le (h.lt x hx) hs.size⟩
  have q := h.q
  cases s with
  | idle => obtain ⟨a1, a2, a3, a4, a5, a6, a7, a8, a9, h⟩ := q; exact ⟨_, _, _, _, _, _, _, _, _, Bk.sm h hs (fun e => e)⟩
  | head h' L => obtain ⟨a1, a2, a3, a4, a5, a6, a7, a8, a9, a10, h, h2, h3, h4⟩ := q; exact ⟨_, _, _, _, _, _, _, _, _, _, Bk.sm h hs (fun e => e), h2.no hs, own_row_sm h3 hs (fun _ _ e => e), h4⟩
  | len h' b => obtain ⟨a1, a2, a3, a4, a5, h, h2, h3, h4⟩ := q; exact ⟨_, _, _, _, _, Bk.sm h hs (fun e => e), h2.no hs, own_row_sm h3 hs (fun _ _ e => e), h4⟩
  | chunk h' b p => obtain ⟨a1, a2, a3, a4, a5, a6, h, h2, ⟨b1, b2, b3, b4, b5⟩, h4⟩ := q; exact ⟨_, _, _, _, _, _, Bk.sm h hs (fun e => e), h2.no hs, ⟨b1, b2, b3, b4.no hs, b5⟩, h4⟩
  | whole h' b => obtain ⟨a1, a2, a3, a4, a5, a6, h, h2, h3, h4⟩ := q; exact ⟨_, _, _, _, _, _, Bk.sm h hs (fun e => e), h2.no hs, own_row_sm h3 hs (fun _ _ e => e), h4⟩
  | bad st => obtain ⟨a1, a2, a3, a4, a5, a6, a7, a8, a9, h⟩ := q; exact ⟨_, _, _, _, _, _, _, _, _, Bk.sm h hs (fun e => e)⟩
theorem IsPrs.imp {w : World} {O P : Nat → Prop} {g : Nat} {s : PrS} (h : IsPrs w O g s) (hi : ∀ x, O x → P x) (lt : ∀ x, P x → x < w.heap.size) : IsPrs w P g s := ⟨h.q.imp hi, hi _ h.og, lt⟩
def FeedPost (w : World) (O : Nat → Prop) (g : Nat) (p : PrS × Nat) (e : Ending) (w' : World) : Prop := e = .returned (.int .i64 p.2) ∧ IsPrs w' (Oup O w w') g p.1 ∧ Sm O w w'
def FdI (w : World) (O : Nat → Prop) (g : Nat) (s : PrS) (l : Txt) (nv kv : Value) (wr : World) : Prop :=
  ∃ (k : Nat) (s' : PrS), k ≤ l.length ∧ kv = .int .i64 k ∧ nv = .int .i64 k ∧ feedW s l = ((feedW s' (l.drop k)).1, (feedW s' (l.drop k)).2 + k) ∧ PrsOk s' ∧ IsPrs wr (Oup O w wr) g s' ∧ Sm O w wr
def FdO (w : World) (O : Nat → Prop) (g : Nat) (s : PrS) (l : Txt) (nv iv : Value) (wr : World) : Prop :=
  (iv = .int .i64 0 ∧ nv = .int .i64 0 ∧ wr = w) ∨ (iv = .int .i64 1 ∧ ∃ s', nv = .int .i64 l.length ∧ feedW s l = (s', l.length) ∧ IsPrs wr (Oup O w wr) g s' ∧ Sm O w wr)
theorem done_ph {s : PrS} : (s.done = true → 3 ≤ s.phase) ∧ (s.done = false → s.phase < 3) := by cases s <;> simp [PrS.done, PrS.phase]
theorem feed_at {s s' : PrS} {l : Txt} {k : Nat} (h : feedW s l = ((feedW s' (l.drop k)).1, (feedW s' (l.drop k)).2 + k)) (hk : k < l.length) (hd : s'.done = false) :
    feedW s l = ((feedW (oneW s' l[k]) (l.drop (k + 1))).1, (feedW (oneW s' l[k]) (l.drop (k + 1))).2 + (k + 1)) := by
  rw [h, List.drop_eq_getElem_cons hk, feedW_step hd]
  simp only [Prod.mk.injEq, true_and]
  omega
set_option maxRecDepth 100000 in
set_option maxHeartbeats 16000000 in
theorem rFeed15_any (w : World) (O : Nat → Prop) (g rb : Nat) (s : PrS) (A : Option Addr) (cp : Nat) (l : Txt) (hI : IsPrs w O g s) (ho : PrsOk s) (hrb : rb < w.heap.size) (hrO : ¬ O rb) (hcell : w.cell? ⟨rb, 0, none⟩ = some (.slice A l.length cp))
    (hR : RowC w A (l.map byteQ)) (hA : ∀ a, A = some a → l ≠ [] → ¬ O a.block) (hl : l.length ≤ 1000000) :
    Calls Tryz.prog 11 #[.pointer (some ⟨g, 0, none⟩), .slice (some ⟨rb, 0, none⟩) 1 1] w (FeedPost w O g (feedW s l)) := by
  have H := Lib.hid (And.intro hI (And.intro ho (And.intro hR (And.intro hA (And.intro hcell hrO)))))
  obtain ⟨P, hP⟩ : ∃ P, feedW s l = P := ⟨_, rfl⟩
  rw [hP]
  have HP := Lib.hid hP
  have hgl := (hI.lt g hI.og)
  clear hI ho hR hA hrO hP
  go_enter Tryz.func11, Tryz.ntmps11
  go_wp2_with fail
  go_loopw [5, 6] (fun n i wr => FdO w O g s l n i wr) (fun _ i _ => 1 - (intOf i).toNat)
  case atStart => exact Or.inl ⟨rfl, rfl, rfl⟩
  case round =>
    rcases hrel with ⟨rfl, rfl, rfl⟩ | ⟨rfl, s', rfl, hf, hI, hsm⟩
    · obtain ⟨wo, rfl⟩ : ∃ wo : World, wo = wr := ⟨_, rfl⟩
      go_wp2_with fail
      go_loopw [5, 7] (fun n k wr => FdI wo O g s l n k wr) (fun _ k _ => l.length - (intOf k).toNat)
      case atStart => exact ⟨0, s, Nat.zero_le _, rfl, rfl, by simp, H.out.2.1, H.out.1.imp Oup.le (Oup.lt H.out.1.lt (Nat.le_refl _)), Sm.refl _ _⟩
      case round =>
        obtain ⟨k, s', hk, rfl, rfl, hf, ho', hI', hsm⟩ := hrel
        have hcell := hsm.keep hrb H.out.2.2.2.2.2 H.out.2.2.2.2.1
        obtain ⟨hd, ln, kk, ll, cl, x, vB, ch, cm, hK⟩ := hI'.ph
        have hgl2 := Bk.lt hK
        have hc := Bk.all hK
        have HI := Lib.hid (And.intro hf (And.intro ho' (And.intro hI' hsm)))
        clear hf ho' hI' hsm hK
        have j0 : (0 : Int) ≤ (k : Int) := by omega
        by_cases hlt : k < l.length
        · have j1 : (k : Int) < (l.length : Int) := by omega
          cases hdn : s'.done with
          | true =>
            have hp := done_ph.1 hdn
            obtain ⟨ph, hph⟩ : ∃ ph, s'.phase = ph := ⟨_, rfl⟩
            rw [hph] at hp hc
            have HF := Lib.hid (show P = (s', k) from by rw [← HP.out, HI.out.1, feedW_done hdn]; simp)
            clear hph hdn
            go_wp2_with fail
            go_ret
            rw [HF.out]
            exact ⟨rfl, HI.out.2.2.1, HI.out.2.2.2⟩
          | false =>
            have hp := done_ph.2 hdn
            obtain ⟨ph, hph⟩ : ∃ ph, s'.phase = ph := ⟨_, rfl⟩
            rw [hph] at hp hc
            have hp2 : ¬ 3 ≤ ph := by omega
            obtain ⟨bb, off, hAe, hbb, r1⟩ := (H.out.2.2.1.sm HI.out.2.2.2 (fun a e => H.out.2.2.2.1 a e (fun h0 => by rw [h0] at hlt; exact absurd hlt (Nat.not_lt_zero _)))).at (j := k) (u := .int .u8 (l[k]).toNat) (by simp [hlt, byteQ])
            subst hAe
            obtain ⟨c, hcc⟩ : ∃ c, l[k] = c := ⟨_, rfl⟩
            rw [hcc] at r1
            have HN := Lib.hid (show feedW s l = ((feedW (oneW s' c) (l.drop (k + 1))).1, (feedW (oneW s' c) (l.drop (k + 1))).2 + (k + 1)) from by rw [← hcc]; exact feed_at HI.out.1 hlt hdn)
            have HO := Lib.hid (rOne15_any wr (Oup O wo wr) g c s' HI.out.2.2.1 HI.out.2.1 hdn)
            clear hph hdn hcc
            go_wp2_with fail
            refine HO.out.mono ?_
            rintro e w2 ⟨rfl, hI2, hs2⟩
            have H2 := Lib.hid (And.intro (hI2.imp (Oup.up HI.out.2.2.2.size hs2.size) (Oup.lt H.out.1.lt (Nat.le_trans HI.out.2.2.2.size hs2.size))) (HI.out.2.2.2.up hs2))
            clear hI2 hs2 hc r1 hcell
            go_wp2_with fail
            exact ⟨⟨k + 1, oneW s' c, by omega, by go_num, by go_num, HN.out, oneW_ok HI.out.2.1, H2.out.1, H2.out.2⟩, by simp [intOf]; omega⟩
        · have hkl : k = l.length := by omega
          have HF := Lib.hid (show feedW s l = (s', l.length) from by rw [HI.out.1, List.drop_of_length_le (by omega)]; simp [feedW, hkl])
          subst hkl
          clear hc
          go_wp2_with fail
          exact ⟨Or.inr ⟨rfl, s', rfl, HF.out, HI.out.2.2.1, HI.out.2.2.2⟩, by decide⟩
    · have HI := Lib.hid (And.intro hf (And.intro hI hsm))
      clear hf hI hsm
      go_wp2_with fail
      go_ret
      rw [← HP.out, HI.out.1]
      exact ⟨rfl, HI.out.2.1, HI.out.2.2⟩
end Go.Proofs.YtiglfbimijnpcaaGreatDoor

