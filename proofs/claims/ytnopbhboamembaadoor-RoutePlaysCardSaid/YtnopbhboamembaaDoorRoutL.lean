/- The law RouteTurns: two Routers and a list side by side; its walk. -/
import Derived.Test.YtnopbhboamembaaDoorRoutK
import Derived.Test.YtnopbhboamembaaDoorG0
import Derived.Deep.RegionHeld3
namespace Go.Proofs.YtnopbhboamembaaDoor
open Go.RowKit Go.Proofs

def toLt (x : LaidA) : Lt := ⟨txt x.pat, x.id, bytesL x.ms⟩
def lcells (M : List LaidA) : List Value := M.flatMap fun x => [.string x.pat, .int .i64 x.id, .slice x.ma x.ms.length x.mc]
theorem lcells_snoc (M : List LaidA) (x : LaidA) : lcells (M ++ [x]) = lcells M ++ [.string x.pat, .int .i64 x.id, .slice x.ma x.ms.length x.mc] := by simp [lcells]
theorem lcells_at {M : List LaidA} {k : Nat} (h : k < M.length) : (lcells M)[k * 3]? = some (.string M[k].pat) ∧ (lcells M)[k * 3 + 1]? = some (.int .i64 M[k].id) ∧ (lcells M)[k * 3 + 2]? = some (.slice M[k].ma M[k].ms.length M[k].mc) := by
  induction M generalizing k with
  | nil => simp at h
  | cons x M ih =>
    cases k with
    | zero => exact ⟨rfl, rfl, rfl⟩
    | succ k =>
      obtain ⟨h1, h2, h3⟩ := ih (k := k) (by simpa using h)
      have e1 : (k + 1) * 3 = k * 3 + 3 := by omega
      rw [e1]
      exact ⟨h1, h2, h3⟩
theorem infoLaid : (Tryd.prog.info? 56).map (fun i => (i.zero, i.size, i.bytes)) = some (some (.agg #[.string ⟨#[]⟩, .int .i64 0, .slice none 0 0]), 3, 48) := by kernel_rfl
theorem srow_rowC {w : World} {A : Option Addr} {vs : List ByteArray} (h : SRow w A vs) : RowC w A ((bytesL vs).map strV) := by
  intro j u hj
  have hlt : j < vs.length := by simpa [bytesL] using (List.getElem?_eq_some_iff.1 hj).1
  obtain ⟨bb, off, hA, hb, h1⟩ := h j hlt
  refine ⟨bb, off, hA, hb, ?_⟩
  rw [h1]
  simp [bytesL, hlt] at hj
  rw [← hj]
  rfl

/-- Two Routers of the call's own, and a list of what was laid; nothing shared. -/
def TS (w w1 : World) (ra rb : Nat) (La Lb : List Lt) (M : List LaidA) (v : Value) : Prop :=
  ∃ Oa Ob, IsRouter w1 Oa ra La ∧ IsRouter w1 Ob rb Lb ∧ w1.ownsRow w.heap.size 56 3 v M.length (lcells M) ∧ Sm No w w1 ∧ (∀ b, Oa b → w.heap.size ≤ b) ∧ (∀ b, Ob b → w.heap.size ≤ b) ∧ (∀ b, Oa b → ¬ Ob b) ∧
    (∀ b, v.ownBlock = some b → ¬ Oa b ∧ ¬ Ob b)
theorem IsRouter.lt {w : World} {O : Nat → Prop} {r : Nat} {L : List Lt} (h : IsRouter w O r L) : ∀ b, O b → b < w.heap.size := by
  obtain ⟨_, _, _, _, _, _, _, _, _, _, _, _, _, h⟩ := h
  exact h
theorem IsRouter.self {w : World} {O : Nat → Prop} {r : Nat} {L : List Lt} (h : IsRouter w O r L) : O r := by
  obtain ⟨_, _, _, _, _, _, _, _, _, h, _⟩ := h
  exact h
theorem TS.sm {w w1 : World} {ra rb : Nat} {La Lb : List Lt} {M : List LaidA} {v : Value} (h : TS w w1 ra rb La Lb M v) : Sm No w w1 := by
  obtain ⟨Oa, Ob, _, _, _, h, _⟩ := h
  exact h
theorem TS.row {w w1 : World} {ra rb : Nat} {La Lb : List Lt} {M : List LaidA} {v : Value} (h : TS w w1 ra rb La Lb M v) : w1.ownsRow w.heap.size 56 3 v M.length (lcells M) := by
  obtain ⟨Oa, Ob, _, _, h, _⟩ := h
  exact h
theorem TS.swap {w w1 : World} {ra rb : Nat} {La Lb : List Lt} {M : List LaidA} {v : Value} (h : TS w w1 ra rb La Lb M v) : TS w w1 rb ra Lb La M v := by
  obtain ⟨Oa, Ob, h1, h2, h3, h4, h5, h6, h7, h8⟩ := h
  exact ⟨Ob, Oa, h2, h1, h3, h4, h6, h5, fun b hb ha => h7 b ha hb, fun b e => ⟨(h8 b e).2, (h8 b e).1⟩⟩
theorem TS.no {w w1 w2 : World} {ra rb : Nat} {La Lb : List Lt} {M : List LaidA} {v : Value} (h : TS w w1 ra rb La Lb M v) (hs : Sm No w1 w2) : TS w w2 ra rb La Lb M v := by
  obtain ⟨Oa, Ob, h1, h2, h3, h4, h5, h6, h7, h8⟩ := h
  exact ⟨Oa, Ob, h1.no hs, h2.no hs, own_row_sm h3 hs (fun _ _ h => h), h4.trans hs (fun _ _ h => h), h5, h6, h7, h8⟩
theorem TS.push {w w1 w2 : World} {ra rb : Nat} {La Lb : List Lt} {M M' : List LaidA} {v v' : Value} (h : TS w w1 ra rb La Lb M v) (hv : w2.ownsRow w.heap.size 56 3 v' M'.length (lcells M')) (hs : Sm (fun b => v.ownBlock = some b) w1 w2)
    (hb : v'.ownBlock = v.ownBlock ∨ v'.ownBlock = some w1.heap.size) : TS w w2 ra rb La Lb M' v' := by
  obtain ⟨Oa, Ob, h1, h2, h3, h4, h5, h6, h7, h8⟩ := h
  refine ⟨Oa, Ob, h1.sm hs (fun b hb e => (h8 b e).1 hb), h2.sm hs (fun b hb e => (h8 b e).2 hb), hv, h4.fresh hs (fun b e => (World.ownsRow.lt h3 b e).1), h5, h6, h7, fun b e => ?_⟩
  rcases hb with g | g
  · exact h8 b (g ▸ e)
  · rw [g] at e
    injection e with e
    subst e
    exact ⟨fun hO => by have := h1.lt _ hO; omega, fun hO => by have := h2.lt _ hO; omega⟩
theorem add_ts (w w1 : World) (ra rb : Nat) (La Lb : List Lt) (M : List LaidA) (v : Value) (x : LaidA) (h : TS w w1 ra rb La Lb M v) (hg : G0 w) (hL : Fine La) (hx : SmallA x) (hms : ArgS w x.ma x.ms x.mc) :
    Calls Tryd.prog 27 #[.pointer (some ⟨ra, 0, none⟩), .string x.pat, .int .i64 x.id, .slice x.ma x.ms.length x.mc] w1 fun e w2 => e = .returned (.int .i64 (addC La (toLt x))) ∧ TS w w2 ra rb (addS La (toLt x)) Lb M v := by
  obtain ⟨Oa, Ob, h1, h2, h3, h4, h5, h6, h7, h8⟩ := h
  have hl : (bytesL x.ms).length = x.ms.length := by simp [bytesL]
  have := add_any w1 Oa ra La x.pat x.id x.ma x.mc (bytesL x.ms) h1 (hg.no h4) hL.1 (fun y hy => Nat.le_trans (hL.2 y hy) (by decide)) (by have := hx.1; omega) (srow_rowC (hms.1.no h4)) hms.2.2.2.2 (by have := hx.2.1; omega)
    (fun t ht => by
      obtain ⟨s, hs, rfl⟩ := List.mem_map.1 ht
      have := hx.2.2 s hs
      simpa using (by omega : s.size ≤ 1000000))
  rw [hl] at this
  refine this.mono ?_
  rintro e w2 ⟨he, O', g1, g2, g3⟩
  refine ⟨he, O', Ob, g1, h2.sm g2 (fun b hb ha => h7 b ha hb), own_row_sm h3 g2 (fun b e => (h8 b e).1), h4.fresh g2 h5, fun b hb => ?_, h6, fun b hb hO => ?_, fun b e => ⟨fun hb => ?_, (h8 b e).2⟩⟩
  · rcases g3 b hb with g | g
    · exact h5 b g
    · exact Nat.le_trans h4.size g
  · rcases g3 b hb with g | g
    · exact h7 b g hO
    · have := h2.lt b hO; omega
  · rcases g3 b hb with g | g
    · exact (h8 b e).1 g
    · have := (World.ownsRow.lt h3 b e).2; omega
theorem match_ts (w w1 : World) (ra rb : Nat) (La Lb : List Lt) (M : List LaidA) (v : Value) (m path : ByteArray) {i st : Int} {rest : Txt} {al : List Txt} (hM : matchL La (txt m) (txt path) = (i, rest, al, st)) (h : TS w w1 ra rb La Lb M v) (hL : Fine La) (hp : path.size ≤ 1000000) :
    Calls Tryd.prog 28 #[.pointer (some ⟨ra, 0, none⟩), .string m, .string path] w1 fun e w2 => ∃ A c, e = .returned (.tuple #[.int .i64 i, strB rest, .slice A al.length c, .int .i64 st]) ∧ RowC w2 A (al.map strV) ∧ Sm No w1 w2 := by
  obtain ⟨Oa, Ob, h1, _⟩ := h
  refine (match_any w1 Oa ra La m path h1 hL.1 hL.2 hp).mono ?_
  rintro e w2 ⟨v, he, hv, hs⟩
  rw [hM] at he hv
  obtain ⟨A, c, rfl, hR, _⟩ := own_rowC hv
  exact ⟨A, c, he, hR, hs⟩

theorem match_few (L : List Lt) (m path : Txt) (h : Fine L) : (matchL L m path).2.2.1.length ≤ 1000000 := by
  unfold matchL
  split
  · simp
  · split
    · simp
    · rename_i k rest _ _ _
      have h1 := compact_len (sortL (withHead (msL (sel L k))))
      have h2 := msL_le (sel L k) (fun x hx => h.2 x (List.mem_filter.1 hx).1)
      have h3 : (sel L k).length ≤ 64 := Nat.le_trans (List.length_filter_le _ _) h.1
      have h4 : (withHead (msL (sel L k))).length ≤ (msL (sel L k)).length + 1 := by unfold withHead; split <;> simp
      rw [sortL_len] at h1
      show (allowP (sel L k)).length ≤ 1000000
      unfold allowP
      have : (sel L k).length * 4000 ≤ 64 * 4000 := Nat.mul_le_mul h3 (Nat.le_refl _)
      omega

def Good (w : World) (M : List LaidA) : Prop := Taken (M.map toLt) ∧ ∀ x ∈ M, SmallA x ∧ ArgS w x.ma x.ms x.mc
theorem Good.fine {w : World} {M : List LaidA} (h : Good w M) : Fine (M.map toLt) := ⟨by simpa using h.1.1, fun y hy => by
  obtain ⟨x, hx, rfl⟩ := List.mem_map.1 hy
  have := (h.2 x hx).1.2.1
  simpa [toLt, bytesL] using this⟩
theorem Good.add {w : World} {M : List LaidA} {x : LaidA} (h : Good w M) (hc : addC (M.map toLt) (toLt x) = 0) (hx : SmallA x) (ha : ArgS w x.ma x.ms x.mc) : Good w (M ++ [x]) :=
  ⟨by rw [List.map_append]; exact h.1.add hc, fun y hy => by
    rcases List.mem_append.1 hy with hy | hy
    · exact h.2 y hy
    · rw [List.mem_singleton] at hy; subst hy; exact ⟨hx, ha⟩⟩
theorem rev_step {M : List LaidA} {k : Nat} (h : k < M.length) : (M.drop k).reverse.map toLt = (M.drop (k + 1)).reverse.map toLt ++ [toLt M[k]] := by
  rw [List.drop_eq_getElem_cons h, List.reverse_cons, List.map_append]; rfl
theorem Good.rev {w : World} {M : List LaidA} (h : Good w M) (k : Nat) : Taken ((M.drop k).reverse.map toLt) := by
  have h1 := h.1.rev
  have e : (M.map toLt).reverse = (M.drop k).reverse.map toLt ++ (M.take k).reverse.map toLt := by
    rw [← List.map_append, ← List.reverse_append, List.take_append_drop, List.map_reverse]
  rw [e] at h1
  exact h1.pre
theorem Good.fineRev {w : World} {M : List LaidA} (h : Good w M) (k : Nat) : Fine ((M.drop k).reverse.map toLt) := ⟨(h.rev k).1, fun y hy => by
  obtain ⟨x, hx, rfl⟩ := List.mem_map.1 hy
  have := (h.2 x (List.mem_of_mem_drop (List.mem_reverse.1 hx))).1.2.1
  simpa [toLt, bytesL] using this⟩
theorem laid_at {w1 : World} {B n c : Nat} {A : Option Addr} {M : List LaidA} (h : w1.ownsRow B 56 3 (.slice A n c) n (lcells M)) {k : Nat} (hk : k < M.length) : ∃ b o, A = some ⟨b, o, none⟩ := by
  obtain ⟨b, o, hA, _⟩ := (own_rowC_at h).at (lcells_at hk).1
  exact ⟨b, o, hA⟩
theorem laid_cells {w1 : World} {B n c b o : Nat} {M : List LaidA} (h : w1.ownsRow B 56 3 (.slice (some ⟨b, o, none⟩) n c) n (lcells M)) {k : Nat} (hk : k < M.length) {x : LaidA} (hx : M[k] = x) :
    w1.cell? ⟨b, o + k * 3, none⟩ = some (.string x.pat) ∧ w1.cell? ⟨b, o + k * 3 + 1, none⟩ = some (.int .i64 x.id) ∧ w1.cell? ⟨b, o + k * 3 + 2, none⟩ = some (.slice x.ma x.ms.length x.mc) := by
  subst hx
  obtain ⟨e1, e2, e3⟩ := lcells_at hk
  have hR := own_rowC_at h
  obtain ⟨b1, o1, g1, _, c1⟩ := hR.at e1
  obtain ⟨b2, o2, g2, _, c2⟩ := hR.at e2
  obtain ⟨b3, o3, g3, _, c3⟩ := hR.at e3
  cases g1; cases g2; cases g3
  exact ⟨c1, by rw [Nat.add_assoc]; exact c2, by rw [Nat.add_assoc]; exact c3⟩
def TuRel (w : World) (n ra rb : Nat) (mv iv : Value) (wr : World) : Prop :=
  ∃ (k : Nat) (M : List LaidA), k ≤ n ∧ iv = .int .i64 k ∧ TS w wr ra rb (M.map toLt) [] M mv ∧ Good w M
def TbRel (w : World) (ra rb : Nat) (M : List LaidA) (v iv : Value) (wr : World) : Prop :=
  ∃ (k : Nat), k ≤ M.length ∧ iv = .int .i64 ((k : Int) - 1) ∧ TS w wr ra rb (M.map toLt) ((M.drop k).reverse.map toLt) M v

theorem start_ts (w : World) : Calls Tryd.prog 26 #[] w fun e w1 => ∃ ra O, e = .returned (.pointer (some ⟨ra, 0, none⟩)) ∧ IsRouter w1 O ra [] ∧ Sm No w w1 ∧ ∀ b, O b → w.heap.size ≤ b := new_any w
theorem ts_of {w w1 w2 : World} {Oa Ob : Nat → Prop} {ra rb : Nat} (h1 : IsRouter w1 Oa ra []) (h2 : Sm No w w1) (h3 : ∀ b, Oa b → w.heap.size ≤ b) (g1 : IsRouter w2 Ob rb []) (g2 : Sm No w1 w2) (g3 : ∀ b, Ob b → w1.heap.size ≤ b) :
    TS w w2 ra rb [] [] [] (.slice none 0 0) :=
  ⟨Oa, Ob, h1.no g2, g1, World.ownsRow_nil _ _ _ 3, h2.trans g2 (fun _ _ h => h), h3, fun b hb => Nat.le_trans h2.size (g3 b hb), fun b ha hb => by have := h1.lt b ha; have := g3 b hb; omega, fun b e => by cases e⟩

set_option maxRecDepth 100000 in
set_option maxHeartbeats 4000000 in
theorem turns19_any {w : World} (hg : G0 w) (A : Option Addr) (l : List LaidA) (c : Nat) (m path : ByteArray) (hA : ArgL w A l c) (hm : m.size ≤ 140737488351232) (hp : path.size ≤ 140737488351232) :
    Calls Tryd.prog 4 #[.slice A l.length c, .string m, .string path] w fun e w' => e = .returned (.bool true) ∧ Sm No w w' := by
  have HH := Lib.hid (heavy19_any w A l c hA)
  have HA := Lib.hid (And.intro hA hg)
  have hc1 : (l.length : Int) ≤ 4398046511104 := by have := hA.2.1; have := hA.2.2.1; omega
  clear hA hg
  go_enter Tryd.func4, Tryd.ntmps4
  go_wp2_with fail
  refine HH.out.mono ?_
  rintro e w0 ⟨b, rfl, hs0, hsm⟩
  cases b
  · have hsmall := hsm rfl
    have HS := Lib.hid (And.intro hsmall hs0)
    clear hsm hs0 hsmall
    by_cases hz : m.size + path.size ≤ 4000
    · go_wp2_with fail
      refine (start_ts w0).mono ?_
      rintro e w1 ⟨ra, Oa, rfl, hRa, hs1, hOa⟩
      have H1 := Lib.hid (And.intro hRa (And.intro hs1 hOa))
      clear hRa hs1 hOa
      go_wp2_with fail
      refine (start_ts w1).mono ?_
      rintro e w2 ⟨rb, Ob, rfl, hRb, hs2, hOb⟩
      have HT := Lib.hid (ts_of H1.out.1 (HS.out.2.trans H1.out.2.1 (fun _ _ h => h)) (fun b hb => Nat.le_trans HS.out.2.size (H1.out.2.2 b hb)) hRb hs2 hOb)
      clear hRb hs2 hOb
      go_wp2_with fail
      go_loopw [9, 10] (fun mv i wr => TuRel w l.length ra rb mv i wr) (fun _ i _ => l.length - (intOf i).toNat)
      case atStart => exact ⟨0, [], Nat.zero_le _, rfl, HT.out, Taken.nil, by simp⟩
      case round =>
        obtain ⟨k, M, hk, rfl, hT, hG⟩ := hrel
        have HR := Lib.hid (And.intro hT hG)
        clear hT hG
        by_cases hlt : k < l.length
        · obtain ⟨⟨bb, off, hAe, hbb, r0, r1, r2⟩, hms⟩ := HA.out.1.1 k hlt
          subst hAe
          have hxs := HS.out.1.2 _ (List.getElem_mem hlt)
          obtain ⟨x, hx⟩ : ∃ x, l[k] = x := ⟨_, rfl⟩
          rw [hx] at r0 r1 r2 hms hxs
          have HX := Lib.hid (And.intro hms (And.intro hxs (And.intro hbb (And.intro r0 (And.intro r1 r2)))))
          have k1 : (0 : Int) ≤ (k : Int) := by omega
          have k2 : (k : Int) < (l.length : Int) := by omega
          clear hx hms hxs hbb r0 r1 r2
          have hcl := fun (W : World) (hs : Sm No w W) => And.intro (hs.cell HX.out.2.2.1 HX.out.2.2.2.1) (And.intro (hs.cell HX.out.2.2.1 HX.out.2.2.2.2.1) (hs.cell HX.out.2.2.1 HX.out.2.2.2.2.2))
          have HCl := Lib.hid hcl
          obtain ⟨r0, r1, r2⟩ := hcl wr HR.out.1.sm
          have hadd := fun (W : World) (hs : Sm No wr W) => add_ts w W ra rb (M.map toLt) [] M _ x (HR.out.1.no hs) HA.out.2 HR.out.2.fine HX.out.2.1 HX.out.1
          clear hcl
          by_cases hc : addC (M.map toLt) (toLt x) = 0
          · simp only [hc] at hadd
            have HAd := Lib.hid (hadd _ (Sm.refl No wr).drew)
            have HC := Lib.hid hc
            clear hadd hc
            go_wp2_with fail
            go_region_held3 (fun w' => w'.cell? ⟨bb, off + k * 3, none⟩ = some (.string x.pat) ∧ w'.cell? ⟨bb, off + k * 3 + 1, none⟩ = some (.int .i64 x.id) ∧ w'.cell? ⟨bb, off + k * 3 + 2, none⟩ = some (.slice x.ma x.ms.length x.mc)) (first | exact ⟨r0, r1, r2⟩ | exact ⟨q0, q1, q2⟩)
              ((go_at_call 27; refine HAd.out.mono ?_; rintro e w3 ⟨rfl, hT3⟩; have HT3 := Lib.hid hT3; obtain ⟨q0, q1, q2⟩ := HCl.out w3 hT3.sm; clear hT3))
            have hTa := HT3.out
            unfold addS at hTa
            rw [if_pos HC.out, show M.map toLt ++ [toLt x] = (M ++ [x]).map toLt by simp] at hTa
            have hMl : M.length ≤ 64 := by have := HR.out.2.1.1; simpa using this
            have HTa := Lib.hid (hTa.no ((Sm.refl No w3).alloc (.cells #[.string x.pat, .int .i64 x.id, .slice x.ma x.ms.length x.mc] 56)))
            have HBs := Lib.hid HTa.out.sm.size
            clear hTa r0 r1 r2
            go_wp2_with (refine wpList_push rfl _ _ 50 56 rfl Tryd.underlying50 _ 3 48 infoLaid rfl (by decide) (by decide) w.heap.size M.length _ (lcells M) rfl HTa.out.row w3.heap.size #[.string x.pat, .int .i64 x.id, .slice x.ma x.ms.length x.mc] rfl (Bk.new w3 _ _) rfl (by simp [Value.oneCell']) (by omega) HBs.out ?_; intro v' w5 hown5 hs5 hv5)
            have HF5 := Lib.hid (And.intro (HTa.out.push (M' := M ++ [x]) (by rw [lcells_snoc, List.length_append]; exact hown5) hs5 hv5) (HR.out.2.add HC.out HX.out.2.1 HX.out.1))
            clear hown5 hs5 hv5
            go_wp2_with fail
            exact ⟨⟨k + 1, M ++ [x], by omega, by go_num, HF5.out.1, HF5.out.2⟩, by simp [intOf]; omega⟩
          · obtain ⟨cc, hcc⟩ : ∃ cc, addC (M.map toLt) (toLt x) = cc := ⟨_, rfl⟩
            have e1 : (cc == 0) = false := by rw [← hcc]; simpa using hc
            simp only [hcc] at hadd
            have HAd := Lib.hid (hadd _ (Sm.refl No wr).drew)
            have HC := Lib.hid hc
            clear hadd hc hcc
            go_wp2_with fail
            go_region_held3 (fun w' => w'.cell? ⟨bb, off + k * 3, none⟩ = some (.string x.pat) ∧ w'.cell? ⟨bb, off + k * 3 + 1, none⟩ = some (.int .i64 x.id) ∧ w'.cell? ⟨bb, off + k * 3 + 2, none⟩ = some (.slice x.ma x.ms.length x.mc)) (first | exact ⟨r0, r1, r2⟩ | exact ⟨q0, q1, q2⟩)
              ((go_at_call 27; refine HAd.out.mono ?_; rintro e w3 ⟨rfl, hT3⟩; have HT3 := Lib.hid hT3; obtain ⟨q0, q1, q2⟩ := HCl.out w3 hT3.sm; clear hT3))
            have hTa := HT3.out
            unfold addS at hTa
            rw [if_neg HC.out] at hTa
            have HTa := Lib.hid hTa
            clear hTa
            go_wp2_with fail
            exact ⟨⟨k + 1, M, by omega, by go_num, HTa.out, HR.out.2⟩, by simp [intOf]; omega⟩
        · obtain ⟨Av, cv, rfl, _, _, _⟩ := own_rowC HR.out.1.row
          have hMl : M.length ≤ 64 := by have := HR.out.2.1.1; simpa using this
          go_wp2_with fail
          obtain ⟨wo, hwo⟩ : ∃ wo : World, wo = wr := ⟨_, rfl⟩
          rw [← hwo] at HR
          have HW := Lib.hid hwo
          go_loopw [11] (fun i wr => TbRel w ra rb M (.slice Av M.length cv) i wr) (fun i _ => (intOf i + 1).toNat)
          case atStart => exact ⟨M.length, Nat.le_refl _, rfl, by rw [List.drop_length]; exact HW.out ▸ HR.out.1⟩
          case round =>
            obtain ⟨k2, hk2, rfl, hT⟩ := hrel
            have HR2 := Lib.hid hT
            clear hT
            cases k2 with
            | zero =>
              have k0 : ((0 : Nat) : Int) - 1 = -1 := by omega
              rw [k0]
              obtain ⟨⟨i, rest, al, st⟩, hA1⟩ : ∃ A, matchL (M.map toLt) (txt m) (txt path) = A := ⟨_, rfl⟩
              have hB1 : matchL ((M.drop 0).reverse.map toLt) (txt m) (txt path) = (i, rest, al, st) := by
                rw [List.drop_zero, List.map_reverse, match_rev HR.out.2.1, hA1]
              have HMa := Lib.hid (match_ts w wr ra rb _ _ M _ m path hA1 HR2.out HR.out.2.fine (by omega))
              have HMb := Lib.hid (fun (W : World) (hs : Sm No wr W) => match_ts w W rb ra _ _ M _ m path hB1 (HR2.out.no hs).swap (HR.out.2.fineRev 0) (by omega))
              have HAl := Lib.hid (show al.length ≤ 1000000 from by
                have := match_few (M.map toLt) (txt m) (txt path) HR.out.2.fine
                rw [hA1] at this
                exact this)
              clear hA1 hB1
              go_wp2_with fail
              refine HMa.out.mono ?_
              rintro e w3 ⟨A3, c3, rfl, hR3, hs3⟩
              have H3 := Lib.hid (And.intro hR3 hs3)
              clear hR3 hs3
              go_wp2_with fail
              refine (HMb.out w3 H3.out.2).mono ?_
              rintro e w4 ⟨A4, c4, rfl, hR4, hs4⟩
              have H4 := Lib.hid (And.intro (H3.out.1.no hs4) (And.intro hR4 (HR2.out.sm.trans (H3.out.2.trans hs4 (fun _ _ h => h)) (fun _ _ h => h))))
              clear hR4 hs4
              unfold strB
              go_wp2_with fail
              refine (texts19_any w4 A3 A4 c3 c4 al H4.out.1 H4.out.2.1 HAl.out).mono ?_
              rintro e w5 ⟨rfl, hs5⟩
              have H5 := Lib.hid (H4.out.2.2.trans hs5 (fun _ _ h => h))
              have HK := Lib.hid (known19_any w5 (HA.out.2.no H5.out))
              clear hs5
              go_wp2_with fail
              refine HK.out.mono ?_
              rintro e w6 ⟨rfl, hs6⟩
              have H6 := Lib.hid (H5.out.trans hs6 (fun _ _ h => h))
              clear hs6
              go_wp2_with fail
              go_ret
              exact ⟨rfl, H6.out⟩
            | succ k2 =>
              have k0 : ((k2 + 1 : Nat) : Int) - 1 = (k2 : Int) := by omega
              rw [k0]
              have hlt2 : k2 < M.length := by omega
              obtain ⟨b4, o4, hA4⟩ := laid_at HR2.out.row hlt2
              subst hA4
              have hst := rev_step hlt2
              have htk := HR.out.2.rev k2
              rw [hst] at htk
              have hadd0 := addC_taken htk
              have hxG := HR.out.2.2 _ (List.getElem_mem hlt2)
              obtain ⟨x, hx⟩ : ∃ x, M[k2] = x := ⟨_, rfl⟩
              have HCl := Lib.hid (fun (W : World) (hW : TS w W rb ra ((M.drop (k2 + 1)).reverse.map toLt) (M.map toLt) M (.slice (some ⟨b4, o4, none⟩) M.length cv) ∨ TS w W rb ra ((M.drop k2).reverse.map toLt) (M.map toLt) M (.slice (some ⟨b4, o4, none⟩) M.length cv)) => laid_cells (by rcases hW with h | h; exact h.row; exact h.row) hlt2 hx)
              rw [hx] at hst hadd0 hxG
              have hadd := add_ts w wr.drew rb ra ((M.drop (k2 + 1)).reverse.map toLt) (M.map toLt) M (.slice (some ⟨b4, o4, none⟩) M.length cv) x (HR2.out.no (Sm.refl No wr).drew).swap HA.out.2 (HR.out.2.fineRev _) hxG.1 hxG.2
              rw [hadd0] at hadd
              unfold addS at hadd
              rw [if_pos hadd0, ← hst] at hadd
              have HAd := Lib.hid hadd
              obtain ⟨r0, r1, r2⟩ := HCl.out wr (Or.inl HR2.out.swap)
              have k1 : (0 : Int) ≤ (k2 : Int) := by omega
              have k3 : (k2 : Int) < (M.length : Int) := by omega
              clear hst htk hadd0 hadd hxG hx
              go_wp2_with fail
              go_region_held3 (fun w' => w'.cell? ⟨b4, o4 + k2 * 3, none⟩ = some (.string x.pat) ∧ w'.cell? ⟨b4, o4 + k2 * 3 + 1, none⟩ = some (.int .i64 x.id) ∧ w'.cell? ⟨b4, o4 + k2 * 3 + 2, none⟩ = some (.slice x.ma x.ms.length x.mc)) (first | exact ⟨r0, r1, r2⟩ | exact ⟨q0, q1, q2⟩)
                ((go_at_call 27; refine HAd.out.mono ?_; rintro e w3 ⟨rfl, hT3⟩; have HT3 := Lib.hid hT3; obtain ⟨q0, q1, q2⟩ := HCl.out w3 (Or.inr hT3); clear hT3))
              clear r0 r1 r2
              go_wp2_with fail
              exact ⟨⟨k2, by omega, rfl, HT3.out.swap⟩, by simp [intOf]⟩
    · go_wp2_with fail
      go_ret
      exact ⟨rfl, HS.out.2⟩
  · have HS := Lib.hid hs0
    clear hsm hs0
    go_wp2_with fail
    go_ret
    exact ⟨rfl, HS.out⟩
end Go.Proofs.YtnopbhboamembaaDoor
