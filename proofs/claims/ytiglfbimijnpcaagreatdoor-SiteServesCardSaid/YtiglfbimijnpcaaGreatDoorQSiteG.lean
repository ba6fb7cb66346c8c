/- What a Site answers, in words. -/
import Derived.Test.YtiglfbimijnpcaaGreatDoorQSiteF
import Derived.Lib.RowBridge
namespace Go.Proofs.YtiglfbimijnpcaaGreatDoor
open Go.RowKit Go.Proofs

structure Rq where
  m : ByteArray
  form : Int
  host : ByteArray
  path : ByteArray
  query : ByteArray
  minor : Int
  fs : List Fld
  body : List UInt8
  close : Bool
  expect : Bool
def reqV (q : Rq) (A : Option Addr) (c : Nat) (B : Option Addr) (d : Nat) : Value :=
  .agg #[.string q.m, .int .i64 q.form, .string q.host, .string q.path, .string q.query, .int .i64 q.minor, .slice A q.fs.length c, .slice B q.body.length d, .bool q.close, .bool q.expect]
def m4 : List Txt := [GET, HEAD, OPTS, POST]
def sOctet : List UInt8 := [97, 112, 112, 108, 105, 99, 97, 116, 105, 111, 110, 47, 111, 99, 116, 101, 116, 45, 115, 116, 114, 101, 97, 109]
def sStream : List UInt8 := [115, 116, 114, 101, 97, 109]
def typeL (fs : List Fld) : ByteArray := if trimL (getL (addL [] fs).1 (txtB sCT)) = [] then txtB sOctet else txtB (trimL (getL (addL [] fs).1 (txtB sCT)))
def keyA (T : List Ent) (q : Txt) : Rsp := match T.find? (fun x => txt x.path == 47 :: q) with
  | some x => okL (txtB sPlain) (txt x.data)
  | none => cannedL 404 []
def partsL (n : Nat) : List Nat := (List.range ((n + 15) / 16)).map fun k => min (16 * (k + 1)) n
def entA (x : Ent) : Rsp := ⟨200, [(txtB sCT, x.type)], txt x.data, if Lib.hasPrefix (txt x.type) sStream = true then partsL x.data.size else []⟩
def idA (T : List Ent) (q : Rq) (i : Int) : Rsp :=
  if i = 1 then okL (typeL q.fs) q.body else if i = 2 then keyA T (txt q.query) else if i = 3 then okL (txtB sPlain) [111, 107, 10] else match T[(i - 10).toNat]? with
  | some x => entA x
  | none => cannedL 404 []
def serveL (T : List Ent) (q : Rq) : Rsp :=
  if q.form = 4 then cannedL 204 [allowF m4] else if q.form = 3 ∨ txt q.m ∉ m4 then cannedL 501 [] else
  if (matchL (routesL T) (txt q.m) (txt q.path)).2.2.2 = 404 then cannedL 404 [] else
  if (matchL (routesL T) (txt q.m) (txt q.path)).2.2.2 = 405 then cannedL (if txt q.m = OPTS then 204 else 405) [allowF (matchL (routesL T) (txt q.m) (txt q.path)).2.2.1] else
  idA T q (matchL (routesL T) (txt q.m) (txt q.path)).1

theorem ofL_mem {L : List Lt} {m : Txt} {i : Int} (h : ofL L m = some i) : ∃ y ∈ L, y.id = i := by
  induction L with
  | nil => cases h
  | cons x r ih =>
    unfold ofL at h
    split at h
    · injection h with h
      exact ⟨x, List.mem_cons_self, h⟩
    · obtain ⟨y, hy, e⟩ := ih h
      exact ⟨y, List.mem_cons_of_mem _ hy, e⟩
theorem pickL_mem {L : List Lt} {m : Txt} {i : Int} (h : pickL L m = some i) : ∃ y ∈ L, y.id = i := by
  unfold pickL at h
  split at h
  · rename_i j hj
    injection h with h
    rw [← h]
    exact ofL_mem hj
  · split at h
    · exact ofL_mem h
    · cases h
/-- What a match says of a Site's routes. -/
theorem match_site (T : List Ent) (m path : Txt) :
    ((matchL (routesL T) m path).2.2.2 = 404 ∨ ((matchL (routesL T) m path).2.2.2 = 405 ∧ SmallM (matchL (routesL T) m path).2.2.1 ∨ ((matchL (routesL T) m path).2.2.2 = 200 ∧ ((matchL (routesL T) m path).1 = 1 ∨ (matchL (routesL T) m path).1 = 2 ∨ (matchL (routesL T) m path).1 = 3 ∨ ∃ (k : Nat) (x : Ent), T[k]? = some x ∧ (matchL (routesL T) m path).1 = 10 + (k : Int))))) ∨ 40 < T.length := by
  by_cases hT : 40 < T.length
  · exact Or.inr hT
  refine Or.inl ?_
  unfold matchL
  cases hf : findP (routesL T) path with
  | none => exact Or.inl rfl
  | some kr =>
    obtain ⟨k, rest⟩ := kr
    refine Or.inr ?_
    cases hp : pickL (sel (routesL T) k) m with
    | none =>
      simp only [hp]
      refine Or.inl ⟨trivial, ?_, ?_⟩
      · unfold allowP
        refine Nat.le_trans (Lib.compact_length_le _) ?_
        unfold sortL
        rw [List.length_mergeSort]
        have h1 : (msL (sel (routesL T) k)).length ≤ 43 := by
          have h2 : ∀ S : List Lt, (∀ y ∈ S, y.ms.length = 1) → (msL S).length = S.length := by
            intro S hS
            induction S with
            | nil => rfl
            | cons y S ih =>
              have := hS y List.mem_cons_self
              have := ih (fun z hz => hS z (List.mem_cons_of_mem _ hz))
              unfold msL at *
              rw [List.flatMap_cons, List.length_append, List.length_cons]
              omega
          rw [h2 _ (fun y hy => by
            rcases mem_routes (List.mem_filter.1 hy).1 with hb | ⟨_, _, _, rfl⟩
            · simp only [base3, List.mem_cons, List.not_mem_nil, or_false] at hb
              rcases hb with rfl | rfl | rfl <;> rfl
            · rfl)]
          refine Nat.le_trans (List.length_filter_le _ _) ?_
          rw [routes_len]
          omega
        unfold withHead
        split
        · rw [List.length_append]; simp; omega
        · omega
      · intro t ht
        unfold allowP at ht
        have ht := ((compact_asc (sortL_le _)).2 t).1 ht
        unfold sortL at ht
        rw [List.mem_mergeSort] at ht
        unfold withHead at ht
        have h2 : t = HEAD ∨ t ∈ msL (sel (routesL T) k) := by
          split at ht
          · rcases List.mem_append.1 ht with h | h
            · exact Or.inr h
            · exact Or.inl (by simpa using h)
          · exact Or.inr ht
        rcases h2 with rfl | h2
        · decide
        · obtain ⟨y, hy, hty⟩ := List.mem_flatMap.1 h2
          rcases mem_routes (List.mem_filter.1 hy).1 with hb | ⟨_, _, _, rfl⟩
          · simp only [base3, List.mem_cons, List.not_mem_nil, or_false] at hb
            rcases hb with rfl | rfl | rfl <;> (simp only [List.mem_cons, List.not_mem_nil, or_false] at hty; subst hty; decide)
          · have : t = GET := by simpa [entLt] using hty
            subst this
            decide
    | some i =>
      simp only [hp]
      refine Or.inr ⟨trivial, ?_⟩
      obtain ⟨y, hy, e⟩ := pickL_mem hp
      rcases mem_routes (List.mem_filter.1 hy).1 with hb | ⟨j, x, hx, rfl⟩
      · simp only [base3, List.mem_cons, List.not_mem_nil, or_false] at hb
        rcases hb with rfl | rfl | rfl
        · exact Or.inl e.symm
        · exact Or.inr (Or.inl e.symm)
        · exact Or.inr (Or.inr (Or.inl e.symm))
      · refine Or.inr (Or.inr (Or.inr ⟨j, x, hx, ?_⟩))
        rw [← e]
        show ((10 + j : Nat) : Int) = _
        omega
end Go.Proofs.YtiglfbimijnpcaaGreatDoor

