/- What a Site answers, at some requests, in words. -/
import Derived.Test.YtiglfbimijnpcaaGreatDoorQSiteG
namespace Go.Proofs.YtiglfbimijnpcaaGreatDoor
open Go.RowKit Go.Proofs

theorem filter_pat {L : List Lt} (h : (L.map (·.pat)).Nodup) {y : Lt} (hy : y ∈ L) : L.filter (fun x => x.pat == y.pat) = [y] := by
  induction L with
  | nil => cases hy
  | cons z r ih =>
    rw [List.map_cons, List.nodup_cons] at h
    rw [List.filter_cons]
    rcases List.mem_cons.1 hy with rfl | hy
    · rw [if_pos (by simp)]
      have : r.filter (fun x => x.pat == y.pat) = [] := List.filter_eq_nil_iff.2 (fun a ha e => h.1 (by
        have e : a.pat = y.pat := by simpa using e
        rw [← e]; exact List.mem_map_of_mem ha))
      rw [this]
    · have hne : ¬ (z.pat == y.pat) = true := fun e => h.1 (by
        have e : z.pat = y.pat := by simpa using e
        rw [e]; exact List.mem_map_of_mem hy)
      rw [if_neg hne, ih h.2 hy]
theorem entLts_pats (i : Nat) (T : List Ent) : (entLts i T).map (·.pat) = pathsL T := by
  induction T generalizing i with
  | nil => rfl
  | cons x r ih =>
    show txt x.path :: (entLts (i + 1) r).map (·.pat) = _
    rw [ih]; rfl
theorem routes_pats2 (T : List Ent) : (routesL T).map (·.pat) = pEcho :: pKey :: pStat :: pathsL T := by
  unfold routesL
  rw [List.map_append, entLts_pats]; rfl
theorem site_ok {T : List Ent} (h : siteC T = 0) : tableB T = true ∧ apartB T = true := by
  unfold siteC at h
  split at h
  · split at h
    · exact ⟨by assumption, by assumption⟩
    · cases h
  · cases h
theorem table_40 {T : List Ent} (h : siteC T = 0) : T.length ≤ 40 := by
  have := (site_ok h).1
  unfold tableB at this
  simp only [Bool.and_eq_true, decide_eq_true_eq] at this
  exact this.1
theorem site_ent {T : List Ent} (h : siteC T = 0) {x : Ent} (hx : x ∈ T) : entB x = true := by
  have := (site_ok h).1
  unfold tableB at this
  simp only [Bool.and_eq_true] at this
  exact List.all_eq_true.1 this.2 x hx
theorem table_nodup {T : List Ent} (h : siteC T = 0) : (pEcho :: pKey :: pStat :: pathsL T).Nodup := of_decide_eq_true (site_ok h).2
theorem sel_ent {T : List Ent} (h : siteC T = 0) {k : Nat} {x : Ent} (hx : T[k]? = some x) : sel (routesL T) (false, txt x.path) = [entLt k x] := by
  have hp := (allE_false (site_ent h (List.mem_of_getElem? hx))).1
  have hw : wideL (txt x.path) = false := by
    unfold plainL at hp
    simp only [Bool.and_eq_true, Bool.not_eq_true'] at hp
    exact hp.2
  rw [← key_plain hw, sel_pat]
  have hm : entLt k x ∈ routesL T := by
    unfold routesL
    refine List.mem_append_right _ ?_
    have := entLts_mem (i := 0) hx
    rwa [Nat.zero_add] at this
  exact filter_pat (by rw [routes_pats2]; exact table_nodup h) hm
theorem match_ent {T : List Ent} (h : siteC T = 0) {k : Nat} {x : Ent} (hx : T[k]? = some x) {m : Txt} (hm : m = GET ∨ m = HEAD) : matchL (routesL T) m (txt x.path) = (10 + (k : Int), [], [], 200) := by
  have e1 : findP (routesL T) (txt x.path) = some ((false, txt x.path), []) := by
    unfold findP
    rw [sel_ent h hx]
    rfl
  have e2 : pickL [entLt k x] m = some (10 + (k : Int)) := by
    have e : ((10 + k : Nat) : Int) = 10 + (k : Int) := by omega
    have o1 : ofL [entLt k x] GET = some ((10 + k : Nat) : Int) := rfl
    have o2 : ofL [entLt k x] HEAD = none := rfl
    rcases hm with rfl | rfl
    · unfold pickL
      rw [o1]
      exact congrArg some e
    · unfold pickL
      rw [o2]
      simp only
      rw [if_true, o1]
      exact congrArg some e
  unfold matchL
  rw [e1]
  simp only [sel_ent h hx, e2]
theorem serve_ent {T : List Ent} (h : siteC T = 0) {k : Nat} {x : Ent} (hx : T[k]? = some x) {q : Rq} (hf : q.form = 1) (hm : txt q.m = GET ∨ txt q.m = HEAD) (hp : q.path = x.path) : serveL T q = entA x := by
  unfold serveL
  have h4 : txt q.m ∈ m4 := by rcases hm with e | e <;> rw [e] <;> decide
  rw [if_neg (by rw [hf]; decide), if_neg (by rw [hf]; rintro (e | e); · cases e
                                              · exact e h4), hp, match_ent h hx hm]
  simp only
  rw [if_neg (by decide), if_neg (by decide)]
  unfold idA
  rw [if_neg (by omega), if_neg (by omega), if_neg (by omega), show ((10 + (k : Int)) - 10).toNat = k by omega, hx]
theorem path_slash {T : List Ent} (h : siteC T = 0) {x : Ent} (hx : x ∈ T) : ∃ r, txt x.path = 47 :: r := by
  have hp := (allE_false (site_ent h hx)).1
  unfold plainL at hp
  simp only [Bool.and_eq_true, beq_iff_eq] at hp
  have hc := hp.1.2
  cases hs : txt x.path with
  | nil => rw [hs] at hc; simp [cleanL] at hc
  | cons c r =>
    by_cases h47 : c = 47
    · exact ⟨r, by rw [h47]⟩
    · rw [hs] at hc; simp [cleanL, h47] at hc
theorem nodup_path {T : List Ent} (h : siteC T = 0) {x y : Ent} (hx : x ∈ T) (hy : y ∈ T) (e : txt x.path = txt y.path) : x = y := by
  have hn : (pathsL T).Nodup := by
    have h1 := table_nodup h
    rw [List.nodup_cons, List.nodup_cons, List.nodup_cons] at h1
    exact h1.2.2.2
  clear h
  induction T with
  | nil => cases hx
  | cons z r ih =>
    unfold pathsL at hn ih
    rw [List.map_cons, List.nodup_cons] at hn
    rcases List.mem_cons.1 hx with rfl | hx2
    · rcases List.mem_cons.1 hy with rfl | hy2
      · rfl
      · exact absurd (List.mem_map.2 ⟨y, hy2, e.symm⟩) hn.1
    · rcases List.mem_cons.1 hy with rfl | hy2
      · exact absurd (List.mem_map.2 ⟨x, hx2, e⟩) hn.1
      · exact ih hx2 hy2 hn.2
theorem keyA_ent {T : List Ent} (h : siteC T = 0) {x : Ent} (hx : x ∈ T) {r : Txt} (e : txt x.path = 47 :: r) : keyA T r = okL (txtB sPlain) (txt x.data) := by
  unfold keyA
  cases hf : T.find? (fun x => txt x.path == 47 :: r) with
  | none =>
    have := List.find?_eq_none.1 hf x hx
    simp [e] at this
  | some y =>
    have h1 := List.mem_of_find?_eq_some hf
    have h2 : txt y.path = 47 :: r := by simpa using List.find?_some hf
    rw [nodup_path h h1 hx (h2.trans e.symm)]
theorem nodup_base {T : List Ent} (h : siteC T = 0) : sel (routesL T) (false, pKey) = [⟨pKey, 2, [GET]⟩] := by
  have hw : wideL pKey = false := by decide
  rw [← key_plain hw, sel_pat]
  exact filter_pat (y := ⟨pKey, 2, [GET]⟩) (by rw [routes_pats2]; exact table_nodup h) (by unfold routesL base3; simp)
theorem serve_key {T : List Ent} (h : siteC T = 0) {x : Ent} (hx : x ∈ T) {q : Rq} (hf : q.form = 1) (hm : txt q.m = GET) (hp : txt q.path = pKey) (hq : txt x.path = 47 :: txt q.query) : serveL T q = okL (txtB sPlain) (txt x.data) := by
  have e1 : findP (routesL T) pKey = some ((false, pKey), []) := by
    unfold findP
    rw [nodup_base h]
    rfl
  have e2 : pickL [⟨pKey, 2, [GET]⟩] GET = some 2 := by decide
  have e3 : matchL (routesL T) GET pKey = (2, [], [], 200) := by
    unfold matchL
    rw [e1]
    simp only [nodup_base h, e2]
  unfold serveL
  have h4 : txt q.m ∈ m4 := by rw [hm]; decide
  rw [if_neg (by rw [hf]; decide), if_neg (by rw [hf]; rintro (e | e); · cases e
                                              · exact e h4), hp, hm, e3]
  simp only
  rw [if_neg (by decide), if_neg (by decide)]
  unfold idA
  rw [if_neg (by decide), if_pos rfl]
  exact keyA_ent h hx hq

/-! The known ones. -/
def eA : Ent := ⟨⟨#[47, 97]⟩, ⟨#[115, 116, 114, 101, 97, 109, 47, 120]⟩, ⟨#[48, 49, 50, 51, 52, 53, 54, 55, 56, 57, 97, 98, 99, 100, 101, 102, 103]⟩⟩
theorem kn20_c : siteC [eA] = 0 := by decide +kernel
def qA : Rq := ⟨⟨#[71, 69, 84]⟩, 1, ⟨#[]⟩, ⟨#[47, 97]⟩, ⟨#[]⟩, 0, [], [], false, false⟩
def qB : Rq := ⟨⟨#[79, 80, 84, 73, 79, 78, 83]⟩, 1, ⟨#[]⟩, ⟨#[47, 115, 116, 97, 116, 117, 115]⟩, ⟨#[]⟩, 0, [], [], false, false⟩
theorem kn20_a : serveL [eA] qA = ⟨200, [(txtB sCT, eA.type)], txt eA.data, [16, 17]⟩ := by
  rw [serve_ent (T := [eA]) (k := 0) kn20_c rfl rfl (Or.inl rfl) rfl]
  rfl
def sAGH : List UInt8 := [71, 69, 84, 44, 32, 72, 69, 65, 68]
theorem allow_GH (i : Int) (p : Txt) : allowP [⟨p, i, [GET]⟩] = [GET, HEAD] := by
  have e : withHead (msL [⟨p, i, [GET]⟩]) = [GET, HEAD] := by rfl
  have e2 : sortL [GET, HEAD] = [GET, HEAD] := List.mergeSort_of_pairwise (by decide)
  rw [allowP, e, e2]
  simp [Lib.compact, Lib.compactUpTo, Lib.keeps, GET, HEAD, List.range_succ]
theorem kn20_b : serveL [eA] qB = ⟨204, [(txtB sAllow, txtB sAGH)], [], []⟩ := by
  have e1 : findP (routesL [eA]) pStat = some ((false, pStat), []) := by decide +kernel
  have e2 : sel (routesL [eA]) (false, pStat) = [⟨pStat, 3, [GET]⟩] := by rfl
  have e3 : pickL [⟨pStat, 3, [GET]⟩] OPTS = none := by decide +kernel
  have hm : matchL (routesL [eA]) (txt qB.m) (txt qB.path) = (0, [], [GET, HEAD], 405) := by
    show matchL (routesL [eA]) OPTS pStat = _
    unfold matchL
    rw [e1]
    simp only [e2, e3, allow_GH]
  unfold serveL
  rw [if_neg (by decide), if_neg (by decide), hm]
  simp only
  rw [if_neg (by decide), if_true, if_pos (by rfl)]
  rfl
end Go.Proofs.YtiglfbimijnpcaaGreatDoor

