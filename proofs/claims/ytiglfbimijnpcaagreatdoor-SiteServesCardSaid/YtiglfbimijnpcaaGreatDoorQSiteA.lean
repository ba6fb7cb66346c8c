/- Sites in words: entries, which tables make a Site and which routes, what a request is answered. No program in sight. -/
import Derived.Test.YtiglfbimijnpcaaGreatDoorQRoutB
import Derived.Test.YtiglfbimijnpcaaGreatDoorQTargB
namespace Go.Proofs.YtiglfbimijnpcaaGreatDoor

structure Ent where
  path : ByteArray
  type : ByteArray
  data : ByteArray
instance : Inhabited Ent := ⟨⟨⟨#[]⟩, ⟨#[]⟩, ⟨#[]⟩⟩⟩
def entB (x : Ent) : Bool := plainL (txt x.path) && (!(txt x.type).isEmpty && (decide ((txt x.type).length ≤ 100) && (valL (txt x.type) && (trimL (txt x.type) == txt x.type && decide ((txt x.data).length ≤ 2048)))))
def POST : Txt := [80, 79, 83, 84]
def OPTS : Txt := [79, 80, 84, 73, 79, 78, 83]
def pEcho : Txt := [47, 101, 99, 104, 111]
def pKey : Txt := [47, 107, 101, 121]
def pStat : Txt := [47, 115, 116, 97, 116, 117, 115]
def base3 : List Lt := [⟨pEcho, 1, [POST]⟩, ⟨pKey, 2, [GET]⟩, ⟨pStat, 3, [GET]⟩]
def entLt (i : Nat) (x : Ent) : Lt := ⟨txt x.path, ((10 + i : Nat) : Int), [GET]⟩
def entLts (i : Nat) : List Ent → List Lt
  | [] => []
  | x :: r => entLt i x :: entLts (i + 1) r
def routesL (T : List Ent) : List Lt := base3 ++ entLts 0 T
def pathsL (T : List Ent) : List Txt := T.map fun x => txt x.path
def tableB (T : List Ent) : Bool := decide (T.length ≤ 40) && T.all entB
/-- No two of one path. -/
def apartB (T : List Ent) : Bool := decide ((pEcho :: pKey :: pStat :: pathsL T).Nodup)
def siteC (T : List Ent) : Int := if tableB T = true then (if apartB T = true then 0 else 11) else 1

theorem entLts_append (i : Nat) (T U : List Ent) : entLts i (T ++ U) = entLts i T ++ entLts (i + T.length) U := by
  induction T generalizing i with
  | nil => simp [entLts]
  | cons x r ih =>
    have e : i + 1 + r.length = i + (r.length + 1) := by omega
    simp only [List.cons_append, entLts, ih, List.length_cons, e]
theorem entLts_len (i : Nat) (T : List Ent) : (entLts i T).length = T.length := by
  induction T generalizing i with
  | nil => rfl
  | cons x r ih => simp [entLts, ih]
theorem routes_len (T : List Ent) : (routesL T).length = 3 + T.length := by
  unfold routesL
  rw [List.length_append, entLts_len]
  rfl
theorem routes_snoc (T : List Ent) (x : Ent) : routesL (T ++ [x]) = routesL T ++ [entLt T.length x] := by
  unfold routesL
  rw [entLts_append, List.append_assoc, Nat.zero_add]
  rfl
theorem routes_take {T : List Ent} {i : Nat} {x : Ent} (h : T[i]? = some x) : routesL (T.take (i + 1)) = routesL (T.take i) ++ [entLt i x] := by
  rw [List.take_add_one, h]
  show routesL (T.take i ++ [x]) = _
  rw [routes_snoc]
  have : (T.take i).length = i := by
    have := (List.getElem?_eq_some_iff.1 h).1
    rw [List.length_take]; omega
  rw [this]
theorem mem_entLts {i : Nat} {T : List Ent} {y : Lt} : y ∈ entLts i T → ∃ k x, T[k]? = some x ∧ y = entLt (i + k) x := by
  induction T generalizing i with
  | nil => intro h; simp [entLts] at h
  | cons x r ih =>
    intro h
    rcases List.mem_cons.1 h with rfl | h
    · exact ⟨0, x, rfl, rfl⟩
    · obtain ⟨k, z, h1, h2⟩ := ih h
      exact ⟨k + 1, z, h1, by rw [h2]; congr 1; omega⟩
theorem entLts_mem {i : Nat} {T : List Ent} {k : Nat} {x : Ent} (h : T[k]? = some x) : entLt (i + k) x ∈ entLts i T := by
  induction T generalizing i k with
  | nil => simp at h
  | cons y r ih =>
    cases k with
    | zero => simp at h; subst h; exact List.mem_cons_self
    | succ k =>
      have := ih (i := i + 1) (k := k) (by simpa using h)
      rw [show i + 1 + k = i + (k + 1) by omega] at this
      exact List.mem_cons_of_mem _ this
theorem mem_routes {T : List Ent} {y : Lt} (h : y ∈ routesL T) : y ∈ base3 ∨ ∃ k x, T[k]? = some x ∧ y = entLt k x := by
  rcases List.mem_append.1 h with h | h
  · exact Or.inl h
  · obtain ⟨k, x, h1, h2⟩ := mem_entLts h
    exact Or.inr ⟨k, x, h1, by rw [h2, Nat.zero_add]⟩
theorem routes_pats (T : List Ent) : (routesL T).map (·.pat) = pEcho :: pKey :: pStat :: pathsL T := by
  have h : ∀ i, (entLts i T).map (·.pat) = pathsL T := by
    intro i
    induction T generalizing i with
    | nil => rfl
    | cons x r ih => simp only [entLts, List.map_cons, ih, pathsL]; rfl
  unfold routesL
  rw [List.map_append, h]
  rfl
theorem ent_pat {x : Ent} (h : entB x = true) : patL (txt x.path) = true ∧ wideL (txt x.path) = false ∧ (txt x.path).length ≤ 200 := by
  unfold entB at h
  simp only [Bool.and_eq_true] at h
  have h1 := h.1
  have h2 := h1
  unfold plainL at h2
  simp only [Bool.and_eq_true, Bool.not_eq_true', decide_eq_true_eq] at h2
  refine ⟨?_, h2.2, h2.1.1⟩
  unfold patL
  rw [h2.2]
  simpa using h1
theorem clash_get (y : Lt) : clash [GET] y.ms = (y.ms.isEmpty || y.ms.contains GET) := by
  unfold clash
  simp
/-- One entry more, laid by the program. -/
theorem ent_add {T : List Ent} {x : Ent} (hx : entB x = true) (hT : T.length ≤ 39) (i : Nat) : addC (routesL T) (entLt i x) = if txt x.path ∈ pKey :: pStat :: pathsL T then 11 else 0 := by
  obtain ⟨h1, h2, h3⟩ := ent_pat hx
  have hp : (patL (entLt i x).pat && decide (0 ≤ (entLt i x).id) && (entLt i x).ms.all tokL) = true := by
    show (patL (txt x.path) && decide ((0 : Int) ≤ ((10 + i : Nat) : Int)) && [GET].all tokL) = true
    rw [h1, Bool.true_and, Bool.and_eq_true]
    exact ⟨by rw [decide_eq_true_eq]; omega, by decide⟩
  unfold addC
  rw [if_pos hp, routes_len, if_neg (by omega)]
  have e : ((sel (routesL T) (keyL (entLt i x).pat)).any (fun y => clash (entLt i x).ms y.ms) = true) ↔ txt x.path ∈ pKey :: pStat :: pathsL T := by
    rw [List.any_eq_true]
    constructor
    · rintro ⟨y, hy, hc⟩
      have hy := List.mem_filter.1 hy
      have e1 : y.pat = txt x.path := by
        have := hy.2
        rw [key_beq, beq_iff_eq] at this
        exact this
      rcases mem_routes hy.1 with hb | ⟨k, z, hz, rfl⟩
      · simp only [base3, List.mem_cons, List.not_mem_nil, or_false] at hb
        rcases hb with rfl | rfl | rfl
        · exact absurd hc (show ¬ clash [GET] [POST] = true by decide)
        · rw [← e1]; exact List.mem_cons_self
        · rw [← e1]; exact List.mem_cons_of_mem _ List.mem_cons_self
      · rw [← e1]
        exact List.mem_cons_of_mem _ (List.mem_cons_of_mem _ (List.mem_map.2 ⟨z, List.mem_of_getElem? hz, rfl⟩))
    · intro hm
      have hall : ∀ y : Lt, y.ms = [GET] → clash (entLt i x).ms y.ms = true := fun y hy => by rw [hy]; exact (show clash [GET] [GET] = true by decide)
      have hsel : ∀ y ∈ routesL T, y.pat = txt x.path → y ∈ sel (routesL T) (keyL (entLt i x).pat) := fun y hy e => List.mem_filter.2 ⟨hy, by rw [key_beq]; simpa [entLt] using e⟩
      rcases List.mem_cons.1 hm with e | hm
      · exact ⟨⟨pKey, 2, [GET]⟩, hsel _ (List.mem_append_left _ (by simp [base3])) e.symm, hall _ rfl⟩
      · rcases List.mem_cons.1 hm with e | hm
        · exact ⟨⟨pStat, 3, [GET]⟩, hsel _ (List.mem_append_left _ (by simp [base3])) e.symm, hall _ rfl⟩
        · obtain ⟨z, hz, e⟩ := List.mem_map.1 hm
          obtain ⟨k, hk⟩ := List.mem_iff_getElem?.1 hz
          exact ⟨entLt k z, hsel _ (List.mem_append_right _ (by have := entLts_mem (i := 0) hk; rwa [Nat.zero_add] at this)) e, hall _ rfl⟩
  by_cases hm : txt x.path ∈ pKey :: pStat :: pathsL T
  · rw [if_pos (e.2 hm), if_pos hm]
  · rw [if_neg (fun h => hm (e.1 h)), if_neg hm]
theorem ent_laid {T : List Ent} {i : Nat} {x : Ent} (h : T[i]? = some x) (hc : addC (routesL (T.take i)) (entLt i x) = 0) : addS (routesL (T.take i)) (entLt i x) = routesL (T.take (i + 1)) := by
  unfold addS
  rw [if_pos hc, routes_take h]
theorem paths_take {T : List Ent} {i : Nat} {x : Ent} (h : T[i]? = some x) : pathsL (T.take (i + 1)) = pathsL (T.take i) ++ [txt x.path] := by
  unfold pathsL
  rw [List.take_add_one, h]
  simp
/-- Up to i no two are of one path, but for that of the first route. -/
def ApP (T : List Ent) (i : Nat) : Prop := (pKey :: pStat :: pathsL (T.take i)).Nodup
def ApR (T : List Ent) (i : Nat) : Prop := (pEcho :: pKey :: pStat :: pathsL (T.take i)).Nodup
theorem apP_zero (T : List Ent) : ApP T 0 := (show (pKey :: pStat :: []).Nodup by decide)
theorem apR_zero (T : List Ent) : ApR T 0 := (show (pEcho :: pKey :: pStat :: []).Nodup by decide)
theorem nodup_snoc {l : List Txt} {x : Txt} : (l ++ [x]).Nodup ↔ l.Nodup ∧ x ∉ l := by
  rw [List.nodup_append]
  constructor
  · rintro ⟨h1, _, h3⟩
    exact ⟨h1, fun hx => h3 x hx x (by simp) rfl⟩
  · rintro ⟨h1, h2⟩
    exact ⟨h1, by simp, fun a ha b hb e => by rw [List.mem_singleton] at hb; subst hb; subst e; exact h2 ha⟩
theorem apP_step {T : List Ent} {i : Nat} {x : Ent} (h : T[i]? = some x) : ApP T (i + 1) ↔ ApP T i ∧ txt x.path ∉ pKey :: pStat :: pathsL (T.take i) := by
  unfold ApP
  rw [paths_take h, ← List.cons_append, ← List.cons_append, nodup_snoc]
theorem apR_step {T : List Ent} {i : Nat} {x : Ent} (h : T[i]? = some x) : ApR T (i + 1) ↔ ApR T i ∧ txt x.path ∉ pEcho :: pKey :: pStat :: pathsL (T.take i) := by
  unfold ApR
  rw [paths_take h, ← List.cons_append, ← List.cons_append, ← List.cons_append, nodup_snoc]
theorem take_pre (T : List Ent) (i : Nat) : pathsL (T.take i) <+: pathsL T := by
  unfold pathsL
  exact List.IsPrefix.map _ (List.take_prefix i T)
theorem nodup_pre {a b : List Txt} (h : a <+: b) (hb : b.Nodup) : a.Nodup := List.Nodup.sublist h.sublist hb
theorem apart_pre {T : List Ent} (h : apartB T = true) (i : Nat) : ApR T i := by
  unfold apartB at h
  rw [decide_eq_true_eq] at h
  exact nodup_pre (by obtain ⟨t, e⟩ := take_pre T i; exact ⟨t, by rw [← e]; rfl⟩) h
theorem apR_P {T : List Ent} {i : Nat} (h : ApR T i) : ApP T i := (List.nodup_cons.1 h).2
/-- An entry of a path that was there: no Site. -/
theorem not_apart {T : List Ent} {i : Nat} {x : Ent} (h : T[i]? = some x) (hm : txt x.path ∈ pEcho :: pKey :: pStat :: pathsL (T.take i)) : apartB T = false := by
  cases ha : apartB T with
  | false => rfl
  | true => exact absurd hm ((apR_step h).1 (apart_pre ha (i + 1))).2
theorem not_echo {T : List Ent} {x : Ent} (hx : x ∈ T) (e : txt x.path = pEcho) : apartB T = false := by
  cases ha : apartB T with
  | false => rfl
  | true =>
    unfold apartB at ha
    rw [decide_eq_true_eq] at ha
    exact absurd (List.mem_cons_of_mem _ (List.mem_cons_of_mem _ (List.mem_map.2 ⟨x, hx, e⟩))) (List.nodup_cons.1 ha).1
theorem is_apart {T : List Ent} (h : ApP T T.length) (he : ∀ x ∈ T, txt x.path ≠ pEcho) : apartB T = true := by
  unfold ApP at h
  rw [List.take_length] at h
  unfold apartB
  rw [decide_eq_true_eq, List.nodup_cons]
  refine ⟨fun hm => ?_, h⟩
  rcases List.mem_cons.1 hm with e | hm
  · exact absurd e (by decide)
  · rcases List.mem_cons.1 hm with e | hm
    · exact absurd e (by decide)
    · obtain ⟨x, hx, e⟩ := List.mem_map.1 hm
      exact he x hx e
theorem is_apartR {T : List Ent} (h : ApR T T.length) : apartB T = true := by
  unfold ApR at h
  rw [List.take_length] at h
  unfold apartB
  rw [decide_eq_true_eq]
  exact h
theorem table_len {T : List Ent} (h : tableB T = true) : T.length ≤ 40 := by
  unfold tableB at h
  simp only [Bool.and_eq_true, decide_eq_true_eq] at h
  exact h.1
theorem table_ent {T : List Ent} (h : tableB T = true) {x : Ent} (hx : x ∈ T) : entB x = true := by
  unfold tableB at h
  simp only [Bool.and_eq_true] at h
  exact List.all_eq_true.1 h.2 x hx
end Go.Proofs.YtiglfbimijnpcaaGreatDoor

