/- site: what is answered, the small helpers. -/
/- What a Site answers, in words. -/
import Derived.Test.YtiglfbimijnpcaaGreatDoorQSiteE
import Derived.Lib.RowBridge
namespace Go.Proofs.YtiglfbimijnpcaaGreatDoor
open Go.RowKit Go.Proofs

def okL (kind : ByteArray) (l : List UInt8) : Rsp := ⟨200, [(txtB sCT, kind)], l, []⟩
def AnsPost (w : World) (B : Nat) (r : Rsp) (e : Ending) (w' : World) : Prop := ∃ v, e = .returned v ∧ RspV w' B v r ∧ Sm No w w'
def OkPost (w : World) (B : Nat) (kind : ByteArray) (l : List UInt8) (e : Ending) (w' : World) : Prop := ∃ vF vB, e = .returned (.agg #[.int .i64 200, vF, vB, .slice none 0 0]) ∧ ownsU w' B 65 2 vF 1 (fldCells [(txtB sCT, kind)]) ∧ OwnB w' B 5 vB l ∧ Sm No w w'
theorem OkPost.ans {w w' : World} {B : Nat} {kind : ByteArray} {l : List UInt8} {e : Ending} (h : OkPost w B kind l e w') : AnsPost w B (okL kind l) e w' := by
  obtain ⟨vF, vB, rfl, h1, h2, h3⟩ := h
  exact ⟨_, rfl, ⟨_, _, _, rfl, h1, h2, ownsU.nil _ _ _ _⟩, h3⟩
theorem Bk.ownU {w : World} {g n size B : Nat} {t : TypeId} {cs : Array Value} (h : Bk w g t cs) (hB : B ≤ g) (hn : cs.size = n * size) (hm : n ≤ maxLen) : ownsU w B t size (.slice (some ⟨g, 0, none⟩) n n) n cs.toList :=
  ⟨by simpa using hn, Or.inr ⟨g, n, cs, (0, 0), rfl, hB, h, Or.inl rfl, Nat.le_refl _, hm, hn, by rw [← hn]; exact List.take_length⟩⟩
set_option maxRecDepth 100000 in
set_option maxHeartbeats 2000000 in
theorem sok_anyS (w : World) (B : Nat) (hB : B ≤ w.heap.size) (kind : ByteArray) (v : Value) (l : List UInt8) (hv : OwnB w B 5 v l) :
    Calls Tryz.prog 45 #[.string kind, v] w (OkPost w B kind l) := by
  obtain ⟨A, c, rfl, _⟩ := hv.row
  have HV := Lib.hid (And.intro hv hB)
  clear hv hB
  obtain ⟨n, hn⟩ : ∃ n, l.length = n := ⟨_, rfl⟩
  have HN := Lib.hid hn
  rw [hn] at HV ⊢
  clear hn
  go_enter Tryz.func45, Tryz.ntmps45
  go_wp2_with fail
  have hs : Sm No w (w.alloc (.cells #[.int .i64 200, .slice (some ⟨w.heap.size + 1, 0, none⟩) 1 1, .slice A n c, .slice none 0 0] 52)) := (Sm.refl No w).alloc _
  have hb0 := (Bk.new w 52 #[.int .i64 200, .slice (some ⟨w.heap.size + 1, 0, none⟩) 1 1, .slice A n c, .slice none 0 0]).alloc (.cells #[.string ⟨#[67, 111, 110, 116, 101, 110, 116, 45, 84, 121, 112, 101]⟩, .string kind] 65)
  have c0 := hb0.at 0 (v := .int .i64 200) rfl
  have c1 := hb0.at 1 (v := .slice (some ⟨w.heap.size + 1, 0, none⟩) 1 1) rfl
  have c2 := hb0.at 2 (v := .slice A n c) rfl
  have c3 := hb0.at 3 (v := .slice none 0 0) rfl
  have hb := Bk.newAt (w.alloc (.cells #[.int .i64 200, .slice (some ⟨w.heap.size + 1, 0, none⟩) 1 1, .slice A n c, .slice none 0 0] 52)) 65 #[.string ⟨#[67, 111, 110, 116, 101, 110, 116, 45, 84, 121, 112, 101]⟩, .string kind] (g := w.heap.size + 1) (by simp)
  refine bodyPost_ret (v := .agg #[.int .i64 200, .slice (some ⟨w.heap.size + 1, 0, none⟩) 1 1, .slice A n c, .slice none 0 0]) (by simp [results, Tryz.results45, go_sem, c0, c1, c2, c3]) rfl ⟨_, _, rfl, hb.ownU (by have := HV.out.2; omega) rfl (by decide), ?_, hs.alloc _⟩
  exact HV.out.1.no (hs.alloc _)
theorem sok_any (w : World) (B : Nat) (hB : B ≤ w.heap.size) (kind : ByteArray) (v : Value) (l : List UInt8) (hv : OwnB w B 5 v l) :
    Calls Tryz.prog 45 #[.string kind, v] w (AnsPost w B (okL kind l)) := (sok_anyS w B hB kind v l hv).mono fun _ _ h => h.ans
/-- The answer is stored in the result's block, which is loaded again. -/
theorem ans_done {w w9 : World} {r0 B : Nat} {st : Int} {vF vB vP a b c d : Value} {r : Rsp} (hr0 : w.heap.size ≤ r0) (hs : Sm No w w9) (hb : Bk w9 r0 52 #[a, b, c, d]) (hB : r0 < B) (hR : RspV w9 B (.agg #[.int .i64 st, vF, vB, vP]) r) :
    AnsPost w w.heap.size r (.returned (.agg #[.int .i64 st, vF, vB, vP])) ((((w9.setCell ⟨r0, 0, none⟩ (.int .i64 st)).setCell ⟨r0, 1, none⟩ vF).setCell ⟨r0, 2, none⟩ vB).setCell ⟨r0, 3, none⟩ vP) ∧
    Bk ((((w9.setCell ⟨r0, 0, none⟩ (.int .i64 st)).setCell ⟨r0, 1, none⟩ vF).setCell ⟨r0, 2, none⟩ vB).setCell ⟨r0, 3, none⟩ vP) r0 52 #[.int .i64 st, vF, vB, vP] := by
  have hS : Sm (fun b => b = r0) w9 _ := ((((Sm.refl _ w9).set1 0 (.int .i64 st)).set1 1 vF).set1 2 vB).set1 3 vP
  exact ⟨⟨_, rfl, (hR.sm hS (fun b e => by omega)).base (by omega), hs.trans hS (fun b hb e => by omega)⟩, (((hb.set 0 (.int .i64 st)).set 1 vF).set 2 vB).set 3 vP⟩
def sep2 : List UInt8 := [44, 32]
def sAllow : List UInt8 := [65, 108, 108, 111, 119]
def joinL (al : List Txt) : List UInt8 := Lib.join al sep2
def allowF (al : List Txt) : Fld := (txtB sAllow, txtB (joinL al))
theorem fRow_one {w : World} {g : Nat} {t : TypeId} {a b : ByteArray} (h : Bk w g t #[.string a, .string b]) : FRow w (some ⟨g, 0, none⟩) [(a, b)] := by
  intro k hk
  have : k = 0 := by simpa using hk
  subst this
  exact ⟨g, 0, rfl, h.lt, h.at 0 rfl, h.at 1 rfl⟩
def SmallM (al : List Txt) : Prop := al.length ≤ 1000 ∧ ∀ t ∈ al, t.length ≤ 1000
theorem joinT_le {al : List Txt} (h : ∀ t ∈ al, t.length ≤ 1000) : (Lib.joinTail sep2 al).length ≤ al.length * 1002 := by
  induction al with
  | nil => simp [Lib.joinTail]
  | cons x r ih =>
    have h1 := h x List.mem_cons_self
    have h2 := ih (fun t ht => h t (List.mem_cons_of_mem _ ht))
    have e : Lib.joinTail sep2 (x :: r) = (sep2 ++ x) ++ Lib.joinTail sep2 r := rfl
    rw [e, List.length_append, List.length_append, List.length_cons]
    have : sep2.length = 2 := rfl
    omega
theorem joinL_le {al : List Txt} (h : ∀ t ∈ al, t.length ≤ 1000) : (joinL al).length ≤ al.length * 1002 := by
  cases al with
  | nil => simp [joinL, Lib.join_nil]
  | cons x r =>
    have h1 := h x List.mem_cons_self
    have h2 := joinT_le (fun t ht => h t (List.mem_cons_of_mem _ ht))
    unfold joinL
    rw [Lib.join_cons, List.length_append, List.length_cons]
    omega
theorem joinM_any (w : World) (A : Option Addr) (c : Nat) (al : List Txt) (hA : RowC w A (al.map strV)) (hm : SmallM al) (hc : al.length ≤ c) :
    Calls Tryz.prog 80 #[.slice A al.length c, .string ⟨#[44, 32]⟩] w fun e w' => e = .returned (.string (txtB (joinL al))) ∧ Sm No w w' := by
  cases al with
  | nil => exact (Tryz.strings_Join_none A c _ w).mono fun e w' ⟨he, hw⟩ => ⟨he, hw ▸ Sm.refl _ _⟩
  | cons x r =>
    obtain ⟨bb, off, rfl, hb, _⟩ := hA.at (j := 0) (u := strV x) rfl
    have e1 : ((x :: r).map fun t => (⟨t.toArray⟩ : ByteArray)).map (·.data.toList) = x :: r := by
      rw [List.map_map]
      exact List.map_id'' (fun _ => rfl) _
    have hJ := Tryz.strings_Join bb off c ((x :: r).map fun t => (⟨t.toArray⟩ : ByteArray)) ⟨#[44, 32]⟩ w (fun j y hj => by
      obtain ⟨_, _, e, _, h⟩ := hA.at (j := j) (u := .string y) (by
        rw [List.getElem?_map] at hj ⊢
        cases hx : (x :: r)[j]? with
        | none => rw [hx] at hj; cases hj
        | some z => rw [hx] at hj; injection hj with hj; rw [← hj]; rfl)
      injection e with e; injection e with e1 e2; subst e1 e2
      exact h) hb (by rw [List.length_map]; have := hm.1; omega) (by rw [List.length_map]; exact hc) (by
      rw [e1]
      have := joinL_le hm.2
      unfold joinL at this
      have := hm.1
      exact Nat.le_trans (by assumption) (by omega))
    rw [e1, List.length_map] at hJ
    exact hJ.mono fun e w' ⟨he, hB⟩ => ⟨he, Sm.of_below hB No⟩
set_option maxRecDepth 100000 in
set_option maxHeartbeats 4000000 in
theorem sallow_any (w : World) (hg : G1 w) (c : Int) (hc0 : 0 ≤ c) (hc1 : c ≤ 9223372036854775807) (A : Option Addr) (cap : Nat) (al : List Txt) (hA : RowC w A (al.map strV)) (hm : SmallM al) (hc : al.length ≤ cap) :
    Calls Tryz.prog 39 #[.int .i64 c, .slice A al.length cap] w (AnsPost w w.heap.size (cannedL c [allowF al])) := by
  have HG := Lib.hid hg
  obtain ⟨J, hJ⟩ : ∃ J, txtB (joinL al) = J := ⟨_, rfl⟩
  have HM := Lib.hid (fun w' (hs : Sm No w w') => hJ ▸ joinM_any w' A cap al (hA.no hs) hm hc)
  have HF := Lib.hid (show allowF al = (⟨#[65, 108, 108, 111, 119]⟩, J) from by unfold allowF; rw [hJ]; rfl)
  clear hA hm hc hg hJ
  obtain ⟨r0, hr0⟩ : ∃ r0, w.heap.size = r0 := ⟨_, rfl⟩
  have HR := Lib.hid hr0
  rw [hr0]
  clear hr0
  go_enter Tryz.func39, Tryz.ntmps39
  go_wp2_with fail
  refine (HM.out _ ((Sm.refl No w).alloc _)).mono ?_
  rintro e w2 ⟨rfl, hs2⟩
  have hb2 := (Bk.newAt w 52 #[.int .i64 0, .slice none 0 0, .slice none 0 0, .slice none 0 0] HR.out.symm).sm hs2 (fun h => h)
  have hs2 := ((Sm.refl No w).alloc (.cells #[.int .i64 0, .slice none 0 0, .slice none 0 0, .slice none 0 0] 52)).trans hs2 (fun _ _ h => h)
  rw [HR.out]
  have H2 := Lib.hid (And.intro hb2 hs2)
  clear hb2 hs2
  go_wp2_with fail
  refine (canned_any _ ((HG.out.no H2.out.2).no ((Sm.refl No w2).alloc _)) c hc0 hc1 (some ⟨w2.heap.size, 0, none⟩) 1 [(⟨#[65, 108, 108, 111, 119]⟩, J)] (fRow_one (Bk.new w2 _ _)) (fun e => by cases e) (by simp)).mono ?_
  rintro e w3 ⟨v, rfl, hR, hs3⟩
  have hb3 := (H2.out.1.alloc (.cells #[.string ⟨#[65, 108, 108, 111, 119]⟩, .string J] 65)).sm hs3 (fun h => h)
  have hs3 := (H2.out.2.alloc (.cells #[.string ⟨#[65, 108, 108, 111, 119]⟩, .string J] 65)).trans hs3 (fun _ _ h => h)
  have hlt : r0 < (w2.alloc (.cells #[.string ⟨#[65, 108, 108, 111, 119]⟩, .string J] 65)).heap.size := by have := H2.out.1.lt; simp; omega
  obtain ⟨R, hRR⟩ : ∃ R, cannedL c [(⟨#[65, 108, 108, 111, 119]⟩, J)] = R := ⟨_, rfl⟩
  rw [hRR] at hR
  have HRR := Lib.hid hRR
  clear hRR
  obtain ⟨vF, vB, vP, rfl, hFF, hB, hP⟩ := hR
  obtain ⟨A1, c1', rfl, _⟩ := hFF.row
  obtain ⟨A2, c2', rfl, _⟩ := hB.row
  obtain ⟨A3, c3', rfl, _⟩ := hP.row
  have HD := Lib.hid (ans_done (Nat.le_of_eq HR.out) hs3 hb3 hlt ⟨_, _, _, rfl, hFF, hB, hP⟩)
  have hl := hb3.lt
  have f0 := hb3.fz 0
  have f1 := hb3.fz 1
  have f2 := hb3.fz 2
  have f3 := hb3.fz 3
  have d0 := hb3.at 0 rfl
  have d1 := hb3.at 1 rfl
  have d2 := hb3.at 2 rfl
  have d3 := hb3.at 3 rfl
  clear hFF hB hP hb3 hs3 hlt
  go_wp2_with fail
  have c0 := HD.out.2.at 0 rfl
  have c1 := HD.out.2.at 1 rfl
  have c2 := HD.out.2.at 2 rfl
  have c3 := HD.out.2.at 3 rfl
  exact bodyPost_ret (v := .agg #[.int .i64 R.st, .slice A1 R.fs.length c1', .slice A2 R.body.length c2', .slice A3 R.parts.length c3']) (by simp [results, Tryz.results39, go_sem, c0, c1, c2, c3]) rfl (by have h := HD.out.1; rw [HR.out] at h; rw [HF.out, HRR.out]; exact h)
end Go.Proofs.YtiglfbimijnpcaaGreatDoor

namespace Go.Proofs.YtiglfbimijnpcaaGreatDoor
open Go.RowKit Go.Proofs

structure Rq where
  m : ByteArray
  form : Int
  host : ByteArray
  path : ByteArray
  query : ByteArray
  minor : Int
  fs : List Fld
  body : List UInt8
  close : Bool
  expect : Bool
def reqV (q : Rq) (A : Option Addr) (c : Nat) (B : Option Addr) (d : Nat) : Value :=
  .agg #[.string q.m, .int .i64 q.form, .string q.host, .string q.path, .string q.query, .int .i64 q.minor, .slice A q.fs.length c, .slice B q.body.length d, .bool q.close, .bool q.expect]
def m4 : List Txt := [GET, HEAD, OPTS, POST]
def sOctet : List UInt8 := [97, 112, 112, 108, 105, 99, 97, 116, 105, 111, 110, 47, 111, 99, 116, 101, 116, 45, 115, 116, 114, 101, 97, 109]
def sStream : List UInt8 := [115, 116, 114, 101, 97, 109]
def typeL (fs : List Fld) : ByteArray := if trimL (getL (addL [] fs).1 (txtB sCT)) = [] then txtB sOctet else txtB (trimL (getL (addL [] fs).1 (txtB sCT)))
def keyA (T : List Ent) (q : Txt) : Rsp := match T.find? (fun x => txt x.path == 47 :: q) with
  | some x => okL (txtB sPlain) (txt x.data)
  | none => cannedL 404 []
def partsL (n : Nat) : List Nat := (List.range ((n + 15) / 16)).map fun k => min (16 * (k + 1)) n
def entA (x : Ent) : Rsp := ⟨200, [(txtB sCT, x.type)], txt x.data, if Lib.hasPrefix (txt x.type) sStream = true then partsL x.data.size else []⟩
def idA (T : List Ent) (q : Rq) (i : Int) : Rsp :=
  if i = 1 then okL (typeL q.fs) q.body else if i = 2 then keyA T (txt q.query) else if i = 3 then okL (txtB sPlain) [111, 107, 10] else match T[(i - 10).toNat]? with
  | some x => entA x
  | none => cannedL 404 []
def serveL (T : List Ent) (q : Rq) : Rsp :=
  if q.form = 4 then cannedL 204 [allowF m4] else if q.form = 3 ∨ txt q.m ∉ m4 then cannedL 501 [] else
  if (matchL (routesL T) (txt q.m) (txt q.path)).2.2.2 = 404 then cannedL 404 [] else
  if (matchL (routesL T) (txt q.m) (txt q.path)).2.2.2 = 405 then cannedL (if txt q.m = OPTS then 204 else 405) [allowF (matchL (routesL T) (txt q.m) (txt q.path)).2.2.1] else
  idA T q (matchL (routesL T) (txt q.m) (txt q.path)).1

theorem ofL_mem {L : List Lt} {m : Txt} {i : Int} (h : ofL L m = some i) : ∃ y ∈ L, y.id = i := by
  induction L with
  | nil => cases h
  | cons x r ih =>
    unfold ofL at h
    split at h
    · injection h with h
      exact ⟨x, List.mem_cons_self, h⟩
    · obtain ⟨y, hy, e⟩ := ih h
      exact ⟨y, List.mem_cons_of_mem _ hy, e⟩
theorem pickL_mem {L : List Lt} {m : Txt} {i : Int} (h : pickL L m = some i) : ∃ y ∈ L, y.id = i := by
  unfold pickL at h
  split at h
  · rename_i j hj
    injection h with h
    rw [← h]
    exact ofL_mem hj
  · split at h
    · exact ofL_mem h
    · cases h
/-- What a match says of a Site's routes. -/
theorem match_site (T : List Ent) (m path : Txt) :
    ((matchL (routesL T) m path).2.2.2 = 404 ∨ ((matchL (routesL T) m path).2.2.2 = 405 ∧ SmallM (matchL (routesL T) m path).2.2.1 ∨ ((matchL (routesL T) m path).2.2.2 = 200 ∧ ((matchL (routesL T) m path).1 = 1 ∨ (matchL (routesL T) m path).1 = 2 ∨ (matchL (routesL T) m path).1 = 3 ∨ ∃ (k : Nat) (x : Ent), T[k]? = some x ∧ (matchL (routesL T) m path).1 = 10 + (k : Int))))) ∨ 40 < T.length := by
  by_cases hT : 40 < T.length
  · exact Or.inr hT
  refine Or.inl ?_
  unfold matchL
  cases hf : findP (routesL T) path with
  | none => exact Or.inl rfl
  | some kr =>
    obtain ⟨k, rest⟩ := kr
    refine Or.inr ?_
    cases hp : pickL (sel (routesL T) k) m with
    | none =>
      simp only [hp]
      refine Or.inl ⟨trivial, ?_, ?_⟩
      · unfold allowP
        refine Nat.le_trans (Lib.compact_length_le _) ?_
        unfold sortL
        rw [List.length_mergeSort]
        have h1 : (msL (sel (routesL T) k)).length ≤ 43 := by
          have h2 : ∀ S : List Lt, (∀ y ∈ S, y.ms.length = 1) → (msL S).length = S.length := by
            intro S hS
            induction S with
            | nil => rfl
            | cons y S ih =>
              have := hS y List.mem_cons_self
              have := ih (fun z hz => hS z (List.mem_cons_of_mem _ hz))
              unfold msL at *
              rw [List.flatMap_cons, List.length_append, List.length_cons]
              omega
          rw [h2 _ (fun y hy => by
            rcases mem_routes (List.mem_filter.1 hy).1 with hb | ⟨_, _, _, rfl⟩
            · simp only [base3, List.mem_cons, List.not_mem_nil, or_false] at hb
              rcases hb with rfl | rfl | rfl <;> rfl
            · rfl)]
          refine Nat.le_trans (List.length_filter_le _ _) ?_
          rw [routes_len]
          omega
        unfold withHead
        split
        · rw [List.length_append]; simp; omega
        · omega
      · intro t ht
        unfold allowP at ht
        have ht := ((compact_asc (sortL_le _)).2 t).1 ht
        unfold sortL at ht
        rw [List.mem_mergeSort] at ht
        unfold withHead at ht
        have h2 : t = HEAD ∨ t ∈ msL (sel (routesL T) k) := by
          split at ht
          · rcases List.mem_append.1 ht with h | h
            · exact Or.inr h
            · exact Or.inl (by simpa using h)
          · exact Or.inr ht
        rcases h2 with rfl | h2
        · decide
        · obtain ⟨y, hy, hty⟩ := List.mem_flatMap.1 h2
          rcases mem_routes (List.mem_filter.1 hy).1 with hb | ⟨_, _, _, rfl⟩
          · simp only [base3, List.mem_cons, List.not_mem_nil, or_false] at hb
            rcases hb with rfl | rfl | rfl <;> (simp only [List.mem_cons, List.not_mem_nil, or_false] at hty; subst hty; decide)
          · have : t = GET := by simpa [entLt] using hty
            subst this
            decide
    | some i =>
      simp only [hp]
      refine Or.inr ⟨trivial, ?_⟩
      obtain ⟨y, hy, e⟩ := pickL_mem hp
      rcases mem_routes (List.mem_filter.1 hy).1 with hb | ⟨j, x, hx, rfl⟩
      · simp only [base3, List.mem_cons, List.not_mem_nil, or_false] at hb
        rcases hb with rfl | rfl | rfl
        · exact Or.inl e.symm
        · exact Or.inr (Or.inl e.symm)
        · exact Or.inr (Or.inr (Or.inl e.symm))
      · refine Or.inr (Or.inr (Or.inr ⟨j, x, hx, ?_⟩))
        rw [← e]
        show ((10 + j : Nat) : Int) = _
        omega
end Go.Proofs.YtiglfbimijnpcaaGreatDoor

