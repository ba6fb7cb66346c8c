/- Sites in words: entries, which tables make a Site and which routes, what a request is answered. No program in sight. -/
/- site: what an entry is. -/
/- Entries in memory; a Site; its New. -/
import Derived.Test.YtiglfbimijnpcaaGreatDoorQI
import Derived.Test.YtiglfbimijnpcaaGreatDoorQD
import Derived.Test.YtiglfbimijnpcaaGreatDoorQR
import Derived.Test.YtiglfbimijnpcaaGreatDoorQExt
import Derived.Test.YtiglfbimijnpcaaGreatDoorQH
namespace Go.Proofs.YtiglfbimijnpcaaGreatDoor

structure Ent where
  path : ByteArray
  type : ByteArray
  data : ByteArray
instance : Inhabited Ent := ⟨⟨⟨#[]⟩, ⟨#[]⟩, ⟨#[]⟩⟩⟩
def entB (x : Ent) : Bool := plainL (txt x.path) && (!(txt x.type).isEmpty && (decide ((txt x.type).length ≤ 100) && (valL (txt x.type) && (trimL (txt x.type) == txt x.type && decide ((txt x.data).length ≤ 2048)))))
def POST : Txt := [80, 79, 83, 84]
def OPTS : Txt := [79, 80, 84, 73, 79, 78, 83]
def pEcho : Txt := [47, 101, 99, 104, 111]
def pKey : Txt := [47, 107, 101, 121]
def pStat : Txt := [47, 115, 116, 97, 116, 117, 115]
def base3 : List Lt := [⟨pEcho, 1, [POST]⟩, ⟨pKey, 2, [GET]⟩, ⟨pStat, 3, [GET]⟩]
def entLt (i : Nat) (x : Ent) : Lt := ⟨txt x.path, ((10 + i : Nat) : Int), [GET]⟩
def entLts (i : Nat) : List Ent → List Lt
  | [] => []
  | x :: r => entLt i x :: entLts (i + 1) r
def routesL (T : List Ent) : List Lt := base3 ++ entLts 0 T
def pathsL (T : List Ent) : List Txt := T.map fun x => txt x.path
def tableB (T : List Ent) : Bool := decide (T.length ≤ 40) && T.all entB
/-- No two of one path. -/
def apartB (T : List Ent) : Bool := decide ((pEcho :: pKey :: pStat :: pathsL T).Nodup)
def siteC (T : List Ent) : Int := if tableB T = true then (if apartB T = true then 0 else 11) else 1

theorem entLts_append (i : Nat) (T U : List Ent) : entLts i (T ++ U) = entLts i T ++ entLts (i + T.length) U := by
  induction T generalizing i with
  | nil => simp [entLts]
  | cons x r ih =>
    have e : i + 1 + r.length = i + (r.length + 1) := by omega
    simp only [List.cons_append, entLts, ih, List.length_cons, e]
theorem entLts_len (i : Nat) (T : List Ent) : (entLts i T).length = T.length := by
  induction T generalizing i with
  | nil => rfl
  | cons x r ih => simp [entLts, ih]
theorem routes_len (T : List Ent) : (routesL T).length = 3 + T.length := by
  unfold routesL
  rw [List.length_append, entLts_len]
  rfl
theorem routes_snoc (T : List Ent) (x : Ent) : routesL (T ++ [x]) = routesL T ++ [entLt T.length x] := by
  unfold routesL
  rw [entLts_append, List.append_assoc, Nat.zero_add]
  rfl
theorem routes_take {T : List Ent} {i : Nat} {x : Ent} (h : T[i]? = some x) : routesL (T.take (i + 1)) = routesL (T.take i) ++ [entLt i x] := by
  rw [List.take_add_one, h]
  show routesL (T.take i ++ [x]) = _
  rw [routes_snoc]
  have : (T.take i).length = i := by
    have := (List.getElem?_eq_some_iff.1 h).1
    rw [List.length_take]; omega
  rw [this]
theorem mem_entLts {i : Nat} {T : List Ent} {y : Lt} : y ∈ entLts i T → ∃ k x, T[k]? = some x ∧ y = entLt (i + k) x := by
  induction T generalizing i with
  | nil => intro h; simp [entLts] at h
  | cons x r ih =>
    intro h
    rcases List.mem_cons.1 h with rfl | h
    · exact ⟨0, x, rfl, rfl⟩
    · obtain ⟨k, z, h1, h2⟩ := ih h
      exact ⟨k + 1, z, h1, by rw [h2]; congr 1; omega⟩
theorem entLts_mem {i : Nat} {T : List Ent} {k : Nat} {x : Ent} (h : T[k]? = some x) : entLt (i + k) x ∈ entLts i T := by
  induction T generalizing i k with
  | nil => simp at h
  | cons y r ih =>
    cases k with
    | zero => simp at h; subst h; exact List.mem_cons_self
    | succ k =>
      have := ih (i := i + 1) (k := k) (by simpa using h)
      rw [show i + 1 + k = i + (k + 1) by omega] at this
      exact List.mem_cons_of_mem _ this
theorem mem_routes {T : List Ent} {y : Lt} (h : y ∈ routesL T) : y ∈ base3 ∨ ∃ k x, T[k]? = some x ∧ y = entLt k x := by
  rcases List.mem_append.1 h with h | h
  · exact Or.inl h
  · obtain ⟨k, x, h1, h2⟩ := mem_entLts h
    exact Or.inr ⟨k, x, h1, by rw [h2, Nat.zero_add]⟩
theorem routes_pats (T : List Ent) : (routesL T).map (·.pat) = pEcho :: pKey :: pStat :: pathsL T := by
  have h : ∀ i, (entLts i T).map (·.pat) = pathsL T := by
    intro i
    induction T generalizing i with
    | nil => rfl
    | cons x r ih => simp only [entLts, List.map_cons, ih, pathsL]; rfl
  unfold routesL
  rw [List.map_append, h]
  rfl
theorem ent_pat {x : Ent} (h : entB x = true) : patL (txt x.path) = true ∧ wideL (txt x.path) = false ∧ (txt x.path).length ≤ 200 := by
  unfold entB at h
  simp only [Bool.and_eq_true] at h
  have h1 := h.1
  have h2 := h1
  unfold plainL at h2
  simp only [Bool.and_eq_true, Bool.not_eq_true', decide_eq_true_eq] at h2
  refine ⟨?_, h2.2, h2.1.1⟩
  unfold patL
  rw [h2.2]
  simpa using h1
/-- One entry more, laid by the program. -/
theorem ent_add {T : List Ent} {x : Ent} (hx : entB x = true) (hT : T.length ≤ 39) (i : Nat) : addC (routesL T) (entLt i x) = if txt x.path ∈ pKey :: pStat :: pathsL T then 11 else 0 := by
  obtain ⟨h1, h2, h3⟩ := ent_pat hx
  have hp : (patL (entLt i x).pat && decide (0 ≤ (entLt i x).id) && (entLt i x).ms.all tokL) = true := by
    show (patL (txt x.path) && decide ((0 : Int) ≤ ((10 + i : Nat) : Int)) && [GET].all tokL) = true
    rw [h1, Bool.true_and, Bool.and_eq_true]
    exact ⟨by rw [decide_eq_true_eq]; omega, by decide⟩
  unfold addC
  rw [if_pos hp, routes_len, if_neg (by omega)]
  have e : ((sel (routesL T) (keyL (entLt i x).pat)).any (fun y => clash (entLt i x).ms y.ms) = true) ↔ txt x.path ∈ pKey :: pStat :: pathsL T := by
    rw [List.any_eq_true]
    constructor
    · rintro ⟨y, hy, hc⟩
      have hy := List.mem_filter.1 hy
      have e1 : y.pat = txt x.path := by
        have := hy.2
        rw [key_beq, beq_iff_eq] at this
        exact this
      rcases mem_routes hy.1 with hb | ⟨k, z, hz, rfl⟩
      · simp only [base3, List.mem_cons, List.not_mem_nil, or_false] at hb
        rcases hb with rfl | rfl | rfl
        · exact absurd hc (show ¬ clash [GET] [POST] = true by decide)
        · rw [← e1]; exact List.mem_cons_self
        · rw [← e1]; exact List.mem_cons_of_mem _ List.mem_cons_self
      · rw [← e1]
        exact List.mem_cons_of_mem _ (List.mem_cons_of_mem _ (List.mem_map.2 ⟨z, List.mem_of_getElem? hz, rfl⟩))
    · intro hm
      have hall : ∀ y : Lt, y.ms = [GET] → clash (entLt i x).ms y.ms = true := fun y hy => by rw [hy]; exact (show clash [GET] [GET] = true by decide)
      have hsel : ∀ y ∈ routesL T, y.pat = txt x.path → y ∈ sel (routesL T) (keyL (entLt i x).pat) := fun y hy e => List.mem_filter.2 ⟨hy, by rw [key_beq]; simpa [entLt] using e⟩
      rcases List.mem_cons.1 hm with e | hm
      · exact ⟨⟨pKey, 2, [GET]⟩, hsel _ (List.mem_append_left _ (by simp [base3])) e.symm, hall _ rfl⟩
      · rcases List.mem_cons.1 hm with e | hm
        · exact ⟨⟨pStat, 3, [GET]⟩, hsel _ (List.mem_append_left _ (by simp [base3])) e.symm, hall _ rfl⟩
        · obtain ⟨z, hz, e⟩ := List.mem_map.1 hm
          obtain ⟨k, hk⟩ := List.mem_iff_getElem?.1 hz
          exact ⟨entLt k z, hsel _ (List.mem_append_right _ (by have := entLts_mem (i := 0) hk; rwa [Nat.zero_add] at this)) e, hall _ rfl⟩
  by_cases hm : txt x.path ∈ pKey :: pStat :: pathsL T
  · rw [if_pos (e.2 hm), if_pos hm]
  · rw [if_neg (fun h => hm (e.1 h)), if_neg hm]
theorem ent_laid {T : List Ent} {i : Nat} {x : Ent} (h : T[i]? = some x) (hc : addC (routesL (T.take i)) (entLt i x) = 0) : addS (routesL (T.take i)) (entLt i x) = routesL (T.take (i + 1)) := by
  unfold addS
  rw [if_pos hc, routes_take h]
theorem paths_take {T : List Ent} {i : Nat} {x : Ent} (h : T[i]? = some x) : pathsL (T.take (i + 1)) = pathsL (T.take i) ++ [txt x.path] := by
  unfold pathsL
  rw [List.take_add_one, h]
  simp
/-- Up to i no two are of one path, but for that of the first route. -/
def ApP (T : List Ent) (i : Nat) : Prop := (pKey :: pStat :: pathsL (T.take i)).Nodup
def ApR (T : List Ent) (i : Nat) : Prop := (pEcho :: pKey :: pStat :: pathsL (T.take i)).Nodup
theorem apP_zero (T : List Ent) : ApP T 0 := (show (pKey :: pStat :: []).Nodup by decide)
theorem apR_zero (T : List Ent) : ApR T 0 := (show (pEcho :: pKey :: pStat :: []).Nodup by decide)
theorem nodup_snoc {l : List Txt} {x : Txt} : (l ++ [x]).Nodup ↔ l.Nodup ∧ x ∉ l := by
  rw [List.nodup_append]
  constructor
  · rintro ⟨h1, _, h3⟩
    exact ⟨h1, fun hx => h3 x hx x (by simp) rfl⟩
  · rintro ⟨h1, h2⟩
    exact ⟨h1, by simp, fun a ha b hb e => by rw [List.mem_singleton] at hb; subst hb; subst e; exact h2 ha⟩
theorem apP_step {T : List Ent} {i : Nat} {x : Ent} (h : T[i]? = some x) : ApP T (i + 1) ↔ ApP T i ∧ txt x.path ∉ pKey :: pStat :: pathsL (T.take i) := by
  unfold ApP
  rw [paths_take h, ← List.cons_append, ← List.cons_append, nodup_snoc]
theorem apR_step {T : List Ent} {i : Nat} {x : Ent} (h : T[i]? = some x) : ApR T (i + 1) ↔ ApR T i ∧ txt x.path ∉ pEcho :: pKey :: pStat :: pathsL (T.take i) := by
  unfold ApR
  rw [paths_take h, ← List.cons_append, ← List.cons_append, ← List.cons_append, nodup_snoc]
theorem take_pre (T : List Ent) (i : Nat) : pathsL (T.take i) <+: pathsL T := by
  unfold pathsL
  exact List.IsPrefix.map _ (List.take_prefix i T)
theorem nodup_pre {a b : List Txt} (h : a <+: b) (hb : b.Nodup) : a.Nodup := List.Nodup.sublist h.sublist hb
theorem apart_pre {T : List Ent} (h : apartB T = true) (i : Nat) : ApR T i := by
  unfold apartB at h
  rw [decide_eq_true_eq] at h
  exact nodup_pre (by obtain ⟨t, e⟩ := take_pre T i; exact ⟨t, by rw [← e]; rfl⟩) h
/-- An entry of a path that was there: no Site. -/
theorem not_apart {T : List Ent} {i : Nat} {x : Ent} (h : T[i]? = some x) (hm : txt x.path ∈ pEcho :: pKey :: pStat :: pathsL (T.take i)) : apartB T = false := by
  cases ha : apartB T with
  | false => rfl
  | true => exact absurd hm ((apR_step h).1 (apart_pre ha (i + 1))).2
theorem not_echo {T : List Ent} {x : Ent} (hx : x ∈ T) (e : txt x.path = pEcho) : apartB T = false := by
  cases ha : apartB T with
  | false => rfl
  | true =>
    unfold apartB at ha
    rw [decide_eq_true_eq] at ha
    exact absurd (List.mem_cons_of_mem _ (List.mem_cons_of_mem _ (List.mem_map.2 ⟨x, hx, e⟩))) (List.nodup_cons.1 ha).1
theorem is_apart {T : List Ent} (h : ApP T T.length) (he : ∀ x ∈ T, txt x.path ≠ pEcho) : apartB T = true := by
  unfold ApP at h
  rw [List.take_length] at h
  unfold apartB
  rw [decide_eq_true_eq, List.nodup_cons]
  refine ⟨fun hm => ?_, h⟩
  rcases List.mem_cons.1 hm with e | hm
  · exact absurd e (by decide)
  · rcases List.mem_cons.1 hm with e | hm
    · exact absurd e (by decide)
    · obtain ⟨x, hx, e⟩ := List.mem_map.1 hm
      exact he x hx e
theorem is_apartR {T : List Ent} (h : ApR T T.length) : apartB T = true := by
  unfold ApR at h
  rw [List.take_length] at h
  unfold apartB
  rw [decide_eq_true_eq]
  exact h
theorem table_len {T : List Ent} (h : tableB T = true) : T.length ≤ 40 := by
  unfold tableB at h
  simp only [Bool.and_eq_true, decide_eq_true_eq] at h
  exact h.1
theorem table_ent {T : List Ent} (h : tableB T = true) {x : Ent} (hx : x ∈ T) : entB x = true := by
  unfold tableB at h
  simp only [Bool.and_eq_true] at h
  exact List.all_eq_true.1 h.2 x hx
end Go.Proofs.YtiglfbimijnpcaaGreatDoor

namespace Go.Proofs.YtiglfbimijnpcaaGreatDoor
open Go.RowKit Go.Proofs

theorem suf_say {s p : ByteArray} {r : Bool} (h : Hid (Lib.hasSuffix s.data.toList p.data.toList = r)) (w : World) (hs : s.size ≤ 9223372036854775807) : Calls Tryz.prog 56 #[.string s, .string p] w fun e w' => e = .returned (.bool r) ∧ w' = w := by
  rw [← h.out]; exact Tryz.strings_HasSuffix s p w hs
theorem suf_wide (s : ByteArray) : Lib.hasSuffix s.data.toList (⟨#[47, 42]⟩ : ByteArray).data.toList = wideL (txt s) := by
  unfold wideL txt
  exact (Lib.hasSuffix_of_drop _ _).symm
set_option maxRecDepth 100000 in
set_option maxHeartbeats 8000000 in
theorem isEntry_any (w : World) (hg : G0 w) (x : Ent) (hp : x.path.size ≤ 900000) (ht : x.type.size ≤ 900000) (hd : x.data.size ≤ 900000) :
    Calls Tryz.prog 23 #[.agg #[.string x.path, .string x.type, .string x.data]] w fun e w' => e = .returned (.bool (entB x)) ∧ Sm No w w' := by
  obtain ⟨p, t, d⟩ := x
  dsimp only at hp ht hd ⊢
  have hb := Bk.new w 56 #[.string p, .string t, .string d]
  have c0 := hb.at 0 (v := .string p) rfl
  have c1 := hb.at 1 (v := .string t) rfl
  have c2 := hb.at 2 (v := .string d) rfl
  clear hb
  have hsm : Sm No w (w.alloc (.cells #[.string p, .string t, .string d] 56)) := (Sm.refl No w).alloc _
  have hz : w.heap.size < (w.alloc (.cells #[.string p, .string t, .string d] 56)).heap.size := by simp
  have hp2 : p.size ≤ 9223372036854775807 := by omega
  have HCl0 := clean_any p hp
  obtain ⟨E, hE⟩ : ∃ E, entB ⟨p, t, d⟩ = E := ⟨_, rfl⟩
  rw [hE]
  unfold entB plainL at hE
  dsimp only at hE
  cases hcl : cleanL (txt p) with
  | none =>
    rw [hcl] at hE HCl0
    have HCl := Lib.hid (HCl0 _ (hg.no hsm))
    have hE2 : E = false := by rw [← hE]; simp
    subst hE2
    clear hE HCl0 hcl hg hd
    unfold cleanV at HCl
    go_enter Tryz.func23, Tryz.ntmps23
    go_wp2_with fail
    refine HCl.out.mono ?_
    rintro e w2 ⟨rfl, hs2⟩
    have c0 := hs2.cell hz c0
    have c1 := hs2.cell hz c1
    have c2 := hs2.cell hz c2
    have hz2 := Nat.lt_of_lt_of_le hz hs2.size
    have HS := Lib.hid (hsm.trans hs2 (fun _ _ h => h))
    clear hs2 hsm
    go_wp2_with fail

    go_quiet (fail)
    go_wp2
    go_ret
    exact ⟨rfl, HS.out.drewN _⟩
  | some l =>
    rw [hcl] at hE HCl0
    have hC1 := HCl0 _ (hg.no hsm)
    clear HCl0 hcl hg
    by_cases q1 : l = txt p
    rotate_left
    · have e1 : (l == p.toList) = false := by
        rw [beq_eq_false_iff_ne]
        intro e
        exact q1 (e.trans (ByteArray.toList_eq p))
      unfold cleanV strB at hC1
      have HCl := Lib.hid hC1
      clear hC1
      have hE2 : E = false := by rw [← hE]; simp [q1]
      subst hE2
      clear hE q1
      go_enter Tryz.func23, Tryz.ntmps23
      go_wp2_with fail
      refine HCl.out.mono ?_
      rintro e w2 ⟨rfl, hs2⟩
      have c0 := hs2.cell hz c0
      have c1 := hs2.cell hz c1
      have c2 := hs2.cell hz c2
      have hz2 := Nat.lt_of_lt_of_le hz hs2.size
      have HS := Lib.hid (hsm.trans hs2 (fun _ _ h => h))
      clear hs2 hsm
      go_wp2_with fail
      go_quiet (fail)
      go_wp2
      go_ret
      exact ⟨rfl, HS.out.drewN _⟩
    subst q1
    rw [show cleanV (some (txt p)) = .tuple #[.string p, .bool true] from rfl] at hC1
    have HCl := Lib.hid hC1
    clear hC1
    by_cases q2 : p.size ≤ 200
    rotate_left
    · have e2 : decide ((p.size : Int) ≤ 200) = false := by simp; omega
      have q2b : ¬ (txt p).length ≤ 200 := by rw [txt_len]; exact q2
      have hE2 : E = false := by rw [← hE]; simp [q2b]
      subst hE2
      clear hE q2 q2b
      go_enter Tryz.func23, Tryz.ntmps23
      go_wp2_with fail
      refine HCl.out.mono ?_
      rintro e w2 ⟨rfl, hs2⟩
      have c0 := hs2.cell hz c0
      have c1 := hs2.cell hz c1
      have c2 := hs2.cell hz c2
      have hz2 := Nat.lt_of_lt_of_le hz hs2.size
      have HS := Lib.hid (hsm.trans hs2 (fun _ _ h => h))
      clear hs2 hsm
      go_wp2_with fail
      go_quiet (fail)
      go_wp2
      go_ret
      exact ⟨rfl, HS.out.drewN _⟩
    have e2p : decide ((p.size : Int) ≤ 200) = true := by simp; omega
    have q2b : (txt p).length ≤ 200 := by rw [txt_len]; exact q2
    obtain ⟨wd, hwd⟩ : ∃ wd, wideL (txt p) = wd := ⟨_, rfl⟩
    have HSf := Lib.hid ((suf_wide p).trans hwd)
    cases wd with
    | true =>
      have hE2 : E = false := by rw [← hE]; simp [hwd]
      subst hE2
      clear hE q2b hwd
      go_enter Tryz.func23, Tryz.ntmps23
      go_wp2_with fail
      refine HCl.out.mono ?_
      rintro e w2 ⟨rfl, hs2⟩
      have c0 := hs2.cell hz c0
      have c1 := hs2.cell hz c1
      have c2 := hs2.cell hz c2
      have hz2 := Nat.lt_of_lt_of_le hz hs2.size
      have HS := Lib.hid (hsm.trans hs2 (fun _ _ h => h))
      clear hs2 hsm
      go_wp2_with fail
      go_quiet ((first
        | (go_at_call 56; exact Calls.quiet_of_same (suf_say HSf _ hp2))
        | (go_at_call 57; exact Calls.quiet_of_same (same_quiet (isValue_say HVl ht _)))))
      go_wp2
      go_ret
      exact ⟨rfl, HS.out.drewN _⟩
    | false =>
      by_cases q3 : t.size = 0
      · have q3b : txt t = [] := List.eq_nil_of_length_eq_zero (by rw [txt_len]; exact q3)
        have e3 : t.toList = [] := by rw [ByteArray.toList_eq]; exact q3b
        have hE2 : E = false := by rw [← hE]; simp [q3b]
        subst hE2
        clear hE q2b hwd q3 q3b
        go_enter Tryz.func23, Tryz.ntmps23
        go_wp2_with fail
        refine HCl.out.mono ?_
        rintro e w2 ⟨rfl, hs2⟩
        have c0 := hs2.cell hz c0
        have c1 := hs2.cell hz c1
        have c2 := hs2.cell hz c2
        have hz2 := Nat.lt_of_lt_of_le hz hs2.size
        have HS := Lib.hid (hsm.trans hs2 (fun _ _ h => h))
        clear hs2 hsm
        go_wp2_with fail
        go_quiet ((first
          | (go_at_call 56; exact Calls.quiet_of_same (suf_say HSf _ hp2))
          | (go_at_call 57; exact Calls.quiet_of_same (same_quiet (isValue_say HVl ht _)))))
        go_wp2
        go_ret
        exact ⟨rfl, HS.out.drewN _⟩
      have q3b : (txt t).isEmpty = false := by
        cases h : txt t with
        | nil => exact absurd (by rw [← txt_len, h]; rfl) q3
        | cons => rfl
      have e3 : t.toList.isEmpty = false := by rw [ByteArray.toList_eq]; exact q3b
      have e3b : ¬ t.toList = [] := fun e => by rw [e] at e3; cases e3
      have e3c : (!t.toList.isEmpty) = true := by rw [e3]; rfl
      obtain ⟨vl, hvl⟩ : ∃ vl, valL (txt t) = vl := ⟨_, rfl⟩
      have HVl := Lib.hid (show valL t.data.toList = vl from hvl)
      have ht : t.size ≤ 1000000 := by omega
      cases vl with
      | false =>
        have hE2 : E = false := by rw [← hE]; simp [hvl]
        subst hE2
        clear hE q2b hwd q3 q3b hvl
        go_enter Tryz.func23, Tryz.ntmps23
        go_wp2_with fail
        refine HCl.out.mono ?_
        rintro e w2 ⟨rfl, hs2⟩
        have c0 := hs2.cell hz c0
        have c1 := hs2.cell hz c1
        have c2 := hs2.cell hz c2
        have hz2 := Nat.lt_of_lt_of_le hz hs2.size
        have HS := Lib.hid (hsm.trans hs2 (fun _ _ h => h))
        clear hs2 hsm
        go_wp2_with fail
        go_quiet ((first
          | (go_at_call 56; exact Calls.quiet_of_same (suf_say HSf _ hp2))
          | (go_at_call 57; exact Calls.quiet_of_same (same_quiet (isValue_say HVl ht _)))))
        go_wp2
        go_ret
        exact ⟨rfl, HS.out.drewN _⟩
      | true =>
        obtain ⟨r, hr⟩ : ∃ r, (⟨(trimL t.data.toList).toArray⟩ : ByteArray) = r := ⟨_, rfl⟩
        have HTr := Lib.hid hr
        have hq : (trimL (txt t) == txt t) = (r.toList == t.toList) := by
          rw [← hr, ByteArray.toList_eq, ByteArray.toList_eq]
          rfl
        obtain ⟨eq, heq⟩ : ∃ eq, (r.toList == t.toList) = eq := ⟨_, rfl⟩
        cases eq with
        | false =>
          have hq2 := hq.trans heq
          have hE2 : E = false := by rw [← hE]; simp [hq2]
          subst hE2
          clear hE q2b hwd q3 q3b hvl hr hq hq2
          go_enter Tryz.func23, Tryz.ntmps23
          go_wp2_with fail
          refine HCl.out.mono ?_
          rintro e w2 ⟨rfl, hs2⟩
          have c0 := hs2.cell hz c0
          have c1 := hs2.cell hz c1
          have c2 := hs2.cell hz c2
          have hz2 := Nat.lt_of_lt_of_le hz hs2.size
          have HS := Lib.hid (hsm.trans hs2 (fun _ _ h => h))
          clear hs2 hsm
          go_wp2_with fail
          have d0 : ∀ x : ExtW w2, x.w.cell? ⟨w.heap.size, 0, none⟩ = some (.string p) := fun x => x.cell hz2 c0
          have d1 : ∀ x : ExtW w2, x.w.cell? ⟨w.heap.size, 1, none⟩ = some (.string t) := fun x => x.cell hz2 c1
          have d2 : ∀ x : ExtW w2, x.w.cell? ⟨w.heap.size, 2, none⟩ = some (.string d) := fun x => x.cell hz2 c2
          refine wp_region_ext_lit (by kernel_rfl) (by kernel_rfl) ?_
          repeat (go_big_quiet_step ((first
            | (go_at_call 56; exact Calls.ext_same (suf_say HSf _ hp2))
            | (go_at_call 57; exact Calls.ext_eq (isValue_say HVl ht _))
            | (go_at_call 42; exact Calls.ext (trim_say HTr ht _)))))
          refine wpQuiet_nil ?_
          intro _ hw'
          obtain ⟨⟨w3, hs3⟩, hw''⟩ := hw'
          subst hw''
          clear d0 d1 d2
          go_wp2
          go_ret
          exact ⟨rfl, HS.out.trans hs3 (fun _ _ h => h)⟩
        | true =>
          by_cases q4 : t.size ≤ 100
          rotate_left
          · have e4 : decide ((t.size : Int) ≤ 100) = false := by simp; omega
            have q4b : ¬ (txt t).length ≤ 100 := by rw [txt_len]; exact q4
            have hE2 : E = false := by rw [← hE]; simp [q4b]
            subst hE2
            clear hE q2b hwd q3 q3b hvl hr hq q4 q4b
            go_enter Tryz.func23, Tryz.ntmps23
            go_wp2_with fail
            refine HCl.out.mono ?_
            rintro e w2 ⟨rfl, hs2⟩
            have c0 := hs2.cell hz c0
            have c1 := hs2.cell hz c1
            have c2 := hs2.cell hz c2
            have hz2 := Nat.lt_of_lt_of_le hz hs2.size
            have HS := Lib.hid (hsm.trans hs2 (fun _ _ h => h))
            clear hs2 hsm
            go_wp2_with fail
            have d0 : ∀ x : ExtW w2, x.w.cell? ⟨w.heap.size, 0, none⟩ = some (.string p) := fun x => x.cell hz2 c0
            have d1 : ∀ x : ExtW w2, x.w.cell? ⟨w.heap.size, 1, none⟩ = some (.string t) := fun x => x.cell hz2 c1
            have d2 : ∀ x : ExtW w2, x.w.cell? ⟨w.heap.size, 2, none⟩ = some (.string d) := fun x => x.cell hz2 c2
            refine wp_region_ext_lit (by kernel_rfl) (by kernel_rfl) ?_
            repeat (go_big_quiet_step ((first
              | (go_at_call 56; exact Calls.ext_same (suf_say HSf _ hp2))
              | (go_at_call 57; exact Calls.ext_eq (isValue_say HVl ht _))
              | (go_at_call 42; exact Calls.ext (trim_say HTr ht _)))))
            refine wpQuiet_nil ?_
            intro _ hw'
            obtain ⟨⟨w3, hs3⟩, hw''⟩ := hw'
            subst hw''
            clear d0 d1 d2
            go_wp2
            go_ret
            exact ⟨rfl, HS.out.trans hs3 (fun _ _ h => h)⟩
          have e4p : decide ((t.size : Int) ≤ 100) = true := by simp; omega
          have q4b : (txt t).length ≤ 100 := by rw [txt_len]; exact q4
          by_cases q5 : d.size ≤ 2048
          rotate_left
          · have e5 : decide ((d.size : Int) ≤ 2048) = false := by simp; omega
            have q5b : ¬ (txt d).length ≤ 2048 := by rw [txt_len]; exact q5
            have hE2 : E = false := by rw [← hE]; simp [q5b]
            subst hE2
            clear hE q2b hwd q3 q3b hvl hr hq q4b q5 q5b
            go_enter Tryz.func23, Tryz.ntmps23
            go_wp2_with fail
            refine HCl.out.mono ?_
            rintro e w2 ⟨rfl, hs2⟩
            have c0 := hs2.cell hz c0
            have c1 := hs2.cell hz c1
            have c2 := hs2.cell hz c2
            have hz2 := Nat.lt_of_lt_of_le hz hs2.size
            have HS := Lib.hid (hsm.trans hs2 (fun _ _ h => h))
            clear hs2 hsm
            go_wp2_with fail
            have d0 : ∀ x : ExtW w2, x.w.cell? ⟨w.heap.size, 0, none⟩ = some (.string p) := fun x => x.cell hz2 c0
            have d1 : ∀ x : ExtW w2, x.w.cell? ⟨w.heap.size, 1, none⟩ = some (.string t) := fun x => x.cell hz2 c1
            have d2 : ∀ x : ExtW w2, x.w.cell? ⟨w.heap.size, 2, none⟩ = some (.string d) := fun x => x.cell hz2 c2
            refine wp_region_ext_lit (by kernel_rfl) (by kernel_rfl) ?_
            repeat (go_big_quiet_step ((first
              | (go_at_call 56; exact Calls.ext_same (suf_say HSf _ hp2))
              | (go_at_call 57; exact Calls.ext_eq (isValue_say HVl ht _))
              | (go_at_call 42; exact Calls.ext (trim_say HTr ht _)))))
            refine wpQuiet_nil ?_
            intro _ hw'
            obtain ⟨⟨w3, hs3⟩, hw''⟩ := hw'
            subst hw''
            clear d0 d1 d2
            go_wp2
            go_ret
            exact ⟨rfl, HS.out.trans hs3 (fun _ _ h => h)⟩
          have e5p : decide ((d.size : Int) ≤ 2048) = true := by simp; omega
          have q5b : (txt d).length ≤ 2048 := by rw [txt_len]; exact q5
          have hq2 := hq.trans heq
          have hE2 : E = true := by rw [← hE]; simp [q2b, hwd, q3b, hvl, beq_iff_eq.1 hq2, q4b, q5b]
          subst hE2
          clear hE q2b hwd q3 q3b hvl hr hq hq2 q4b q5b
          go_enter Tryz.func23, Tryz.ntmps23
          go_wp2_with fail
          refine HCl.out.mono ?_
          rintro e w2 ⟨rfl, hs2⟩
          have c0 := hs2.cell hz c0
          have c1 := hs2.cell hz c1
          have c2 := hs2.cell hz c2
          have hz2 := Nat.lt_of_lt_of_le hz hs2.size
          have HS := Lib.hid (hsm.trans hs2 (fun _ _ h => h))
          clear hs2 hsm
          go_wp2_with fail
          have d0 : ∀ x : ExtW w2, x.w.cell? ⟨w.heap.size, 0, none⟩ = some (.string p) := fun x => x.cell hz2 c0
          have d1 : ∀ x : ExtW w2, x.w.cell? ⟨w.heap.size, 1, none⟩ = some (.string t) := fun x => x.cell hz2 c1
          have d2 : ∀ x : ExtW w2, x.w.cell? ⟨w.heap.size, 2, none⟩ = some (.string d) := fun x => x.cell hz2 c2
          refine wp_region_ext_lit (by kernel_rfl) (by kernel_rfl) ?_
          repeat (go_big_quiet_step ((first
            | (go_at_call 56; exact Calls.ext_same (suf_say HSf _ hp2))
            | (go_at_call 57; exact Calls.ext_eq (isValue_say HVl ht _))
            | (go_at_call 42; exact Calls.ext (trim_say HTr ht _)))))
          refine wpQuiet_nil ?_
          intro _ hw'
          obtain ⟨⟨w3, hs3⟩, hw''⟩ := hw'
          subst hw''
          clear d0 d1 d2
          go_wp2
          go_ret
          exact ⟨rfl, HS.out.trans hs3 (fun _ _ h => h)⟩
end Go.Proofs.YtiglfbimijnpcaaGreatDoor

namespace Go.Proofs.YtiglfbimijnpcaaGreatDoor
open Go.RowKit Go.Proofs

def entCells (T : List Ent) : List Value := T.flatMap fun x => [.string x.path, .string x.type, .string x.data]
theorem entCells_len (l : List Ent) : (entCells l).length = l.length * 3 := by
  induction l with
  | nil => rfl
  | cons x l ih => simp only [entCells, List.flatMap_cons, List.length_append, List.length_cons, List.length_nil] at ih ⊢; omega
theorem entCells_at {l : List Ent} {k : Nat} {x : Ent} (h : l[k]? = some x) : (entCells l)[k * 3]? = some (.string x.path) ∧ (entCells l)[k * 3 + 1]? = some (.string x.type) ∧ (entCells l)[k * 3 + 2]? = some (.string x.data) := by
  induction l generalizing k with
  | nil => simp at h
  | cons y l ih =>
    cases k with
    | zero => simp at h; subst h; exact ⟨rfl, rfl, rfl⟩
    | succ k =>
      obtain ⟨h1, h2, h3⟩ := ih (k := k) (by simpa using h)
      have e1 : (k + 1) * 3 = k * 3 + 3 := by omega
      rw [e1]
      exact ⟨h1, h2, h3⟩
theorem entCells_one (l : List Ent) : ∀ u ∈ entCells l, u.oneCell' = true := by
  intro u hu
  obtain ⟨x, _, hx⟩ := List.mem_flatMap.1 hu
  simp only [List.mem_cons, List.not_mem_nil, or_false] at hx
  rcases hx with rfl | rfl | rfl <;> rfl
theorem infoEnt : (Tryz.prog.info? 56).map (fun i => (i.zero, i.size, i.bytes)) = some (some (.agg #[.string ⟨#[]⟩, .string ⟨#[]⟩, .string ⟨#[]⟩]), 3, 48) := by kernel_rfl
def OwnE (w : World) (B : Nat) (v : Value) (T : List Ent) : Prop := w.ownsRow B 56 3 v T.length (entCells T)
/-- What is small enough to be looked at. -/
def SmallE (T : List Ent) : Prop := ∀ x ∈ T, x.path.size ≤ 800000 ∧ x.type.size ≤ 800000 ∧ x.data.size ≤ 800000
set_option maxRecDepth 100000 in
set_option maxHeartbeats 1000000 in
theorem cloneE_any (w : World) (A : Option Addr) (c : Nat) (T : List Ent) (hA : RowC w A (entCells T)) (hl : T.length ≤ 1000000) (h0 : A = none → T.length = 0 ∧ c = 0) :
    Calls Tryz.prog 25 #[.slice A T.length c] w fun e w' => ∃ v, e = .returned v ∧ OwnE w' w.heap.size v T ∧ Sm No w w' := by
  have hsl := fun (w : World) (a : Option Addr) (n c : Nat) => Lib.run_eql_slice_nil (P := Tryz.prog) w 22 56 a n c 0 0 Tryz.underlying22
  cases A with
  | none =>
    obtain ⟨e, rfl⟩ := h0 rfl
    obtain rfl := List.eq_nil_of_length_eq_zero e
    clear hA
    go_enter Tryz.func25, Tryz.ntmps25
    go_wp2_with fail
    go_ret
    exact ⟨_, rfl, World.ownsRow_nil _ _ _ 3, Sm.refl _ _⟩
  | some a =>
    clear h0
    have HR := Lib.hid hA
    clear hA
    go_enter Tryz.func25, Tryz.ntmps25
    go_wp2_with (refine wpList_push_row rfl _ _ 22 56 rfl Tryz.underlying22 _ 3 48 infoEnt rfl (by decide) (by decide) w.heap.size 0 _ [] rfl (own_empty w _ _ (Nat.le_refl _)) a T.length c (entCells T) rfl (entCells_len T) (HR.out.no ((Sm.refl No w).alloc _)) (entCells_one T) (by omega) (by simp) ?_; intro v' w1 hown hs1 _ _)
    go_ret
    refine ⟨_, rfl, by simpa [OwnE] using hown, ((Sm.refl No w).alloc (.cells #[] 56)).trans hs1 (fun b hb e => ?_)⟩
    have e' : some w.heap.size = some b := e
    injection e' with e'
    omega

/-- A Router of the call's own, made behind world w; the blocks of K are none of its. -/
def OwnR (w w1 : World) (K : Nat → Prop) (r : Nat) (L : List Lt) : Prop := ∃ O, IsRouter w1 O r L ∧ Sm No w w1 ∧ (∀ b, O b → w.heap.size ≤ b) ∧ ∀ b, K b → b < w1.heap.size ∧ ¬ O b
section
variable {w w1 w2 : World} {K : Nat → Prop} {r : Nat} {L : List Lt}
theorem IsRouter.ltO {w : World} {O : Nat → Prop} {r : Nat} {L : List Lt} (h : IsRouter w O r L) : ∀ b, O b → b < w.heap.size := by
  obtain ⟨_, _, _, _, _, _, _, _, _, _, _, _, _, h⟩ := h
  exact h
theorem OwnR.no (h : OwnR w w1 K r L) (hs : Sm No w1 w2) : OwnR w w2 K r L := by
  obtain ⟨O, h1, h2, h3, h4⟩ := h
  exact ⟨O, h1.no hs, h2.trans hs (fun _ _ h => h), h3, fun b hb => ⟨Nat.lt_of_lt_of_le (h4 b hb).1 hs.size, (h4 b hb).2⟩⟩
theorem OwnR.more (h : OwnR w w1 K r L) (hs : Sm No w1 w2) {K2 : Nat → Prop} (hK : ∀ b, K2 b → (K b ∨ w1.heap.size ≤ b) ∧ b < w2.heap.size) : OwnR w w2 K2 r L := by
  obtain ⟨O, h1, h2, h3, h4⟩ := h
  refine ⟨O, h1.no hs, h2.trans hs (fun _ _ h => h), h3, fun b hb => ⟨(hK b hb).2, fun e => ?_⟩⟩
  rcases (hK b hb).1 with hb | hb
  · exact (h4 b hb).2 e
  · have := h1.ltO b e; omega
theorem OwnR.sm (h : OwnR w w1 K r L) : Sm No w w1 := by
  obtain ⟨_, _, h, _⟩ := h
  exact h
theorem addR_own {s : ByteArray} {id : Int} {A : Option Addr} {c : Nat} {ms : List Txt} (h : OwnR w w1 K r L) (hg : G0 w) (hL : Fine L) (hs : s.size ≤ 800000) (hA : RowC w1 A (ms.map strV)) (hn : A = none → c = 0) (hml : ms.length ≤ 4000) (hms : ∀ t ∈ ms, t.length ≤ 1000000) :
    Calls Tryz.prog 26 #[.pointer (some ⟨r, 0, none⟩), .string s, .int .i64 id, .slice A ms.length c] w1 fun e w2 => e = .returned (.int .i64 (addC L ⟨txt s, id, ms⟩)) ∧ OwnR w w2 K r (addS L ⟨txt s, id, ms⟩) ∧ Sm (fun b => ¬ K b) w1 w2 := by
  obtain ⟨O, h1, h2, h3, h4⟩ := h
  refine (add19_any w1 O r L s id A c ms h1 (hg.no h2) hL.1 (fun x hx => Nat.le_trans (hL.2 x hx) (by decide)) hs hA hn (by omega) hms).mono ?_
  rintro e w2 ⟨he, O', g1, g2, g3⟩
  refine ⟨he, ⟨O', g1, h2.fresh g2 h3, fun b hb => ?_, fun b hb => ⟨Nat.lt_of_lt_of_le (h4 b hb).1 g2.size, fun e => ?_⟩⟩, g2.mono (fun b _ e hk => (h4 b hk).2 e)⟩
  · rcases g3 b hb with g | g
    · exact h3 b g
    · exact Nat.le_trans h2.size g
  · rcases g3 b e with g | g
    · exact (h4 b hb).2 g
    · have := (h4 b hb).1; omega
end
/-- A Site of the table T; its blocks are of O. -/
def IsSite (w : World) (O : Nat → Prop) (s : Nat) (T : List Ent) : Prop :=
  ∃ (Q : Nat → Prop) (r : Nat) (vT : Value), IsRouter w Q r (routesL T) ∧ Bk w s 63 #[.pointer (some ⟨r, 0, none⟩), vT] ∧ OwnE w 0 vT T ∧ (∀ b, (Q b ∨ b = s ∨ vT.ownBlock = some b) → O b) ∧ ∀ b, O b → b < w.heap.size
theorem IsSite.sm {S O : Nat → Prop} {w w' : World} {s : Nat} {T : List Ent} (h : IsSite w O s T) (hs : Sm S w w') (hS : ∀ b, O b → ¬ S b) : IsSite w' O s T := by
  obtain ⟨Q, r, vT, h1, h2, h3, h4, h5⟩ := h
  exact ⟨Q, r, vT, h1.sm hs (fun b hb => hS b (h4 b (Or.inl hb))), h2.sm hs (hS s (h4 s (Or.inr (Or.inl rfl)))), own_row_sm h3 hs (fun b hb => hS b (h4 b (Or.inr (Or.inr hb)))), h4, fun b hb => Nat.lt_of_lt_of_le (h5 b hb) hs.size⟩
theorem IsSite.no {O : Nat → Prop} {w w' : World} {s : Nat} {T : List Ent} (h : IsSite w O s T) (hs : Sm No w w') : IsSite w' O s T := h.sm hs (fun _ _ h => h)
def NewPost (w : World) (T : List Ent) (e : Ending) (w' : World) : Prop :=
  (siteC T = 0 ∧ ∃ s O, e = .returned (.tuple #[.pointer (some ⟨s, 0, none⟩), .int .i64 0]) ∧ IsSite w' O s T ∧ Sm No w w' ∧ ∀ b, O b → w.heap.size ≤ b) ∨
  (siteC T ≠ 0 ∧ e = .returned (.tuple #[.pointer none, .int .i64 (siteC T)]) ∧ Sm No w w')
theorem fine_routes {T : List Ent} (h : T.length ≤ 40) : Fine (routesL T) := by
  refine ⟨by rw [routes_len]; omega, fun y hy => ?_⟩
  rcases mem_routes hy with hb | ⟨k, z, _, rfl⟩
  · simp only [base3, List.mem_cons, List.not_mem_nil, or_false] at hb
    rcases hb with rfl | rfl | rfl <;> decide
  · show ([GET] : List Txt).length ≤ 4000
    decide
end Go.Proofs.YtiglfbimijnpcaaGreatDoor

