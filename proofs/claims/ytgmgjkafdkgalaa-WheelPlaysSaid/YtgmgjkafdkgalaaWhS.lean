/- Timers sorted by their time and order. -/
import Derived.Test.YtgmgjkafdkgalaaWhO
import Derived.Test.YtgmgjkafdkgalaaShelf
import Derived.Sort.OwnSorted
import Derived.Deep.QuietTactic
import Derived.BigQuiet
namespace Go.Proofs.Ytgmgjkafdkgalaa
open Go.RowKit Go.Proofs Go.Maps Go.Sort

def orI (x y : Int) : Int := if x = 0 then y else x
def OrRel (x y : Int) (i : Value) : Prop := (i = .int .i64 0) ∨ (i = .int .i64 1 ∧ x = 0) ∨ (i = .int .i64 2 ∧ x = 0 ∧ y = 0)
set_option maxRecDepth 100000 in
theorem or_any (w : World) (b : Nat) (x y : Int) (c0 : w.cell? ⟨b, 0, none⟩ = some (.int .i64 x)) (c1 : w.cell? ⟨b, 1, none⟩ = some (.int .i64 y)) :
    Calls Try.prog 38 #[.slice (some ⟨b, 0, none⟩) 2 2] w fun e w' => e = .returned (.int .i64 (orI x y)) ∧ w' = w := by
  obtain ⟨r, hr⟩ : ∃ r, orI x y = r := ⟨_, rfl⟩
  rw [hr]
  have HR := Lib.hid hr
  clear hr
  go_enter Try.func38, Try.ntmps38
  go_wp2_with fail
  go_loop [8] (fun i => OrRel x y i) (fun i => 2 - (intOf i).toNat)
  case atStart => exact Or.inl rfl
  case round =>
    rcases hrel with rfl | ⟨rfl, hx⟩ | ⟨rfl, hx, hy⟩
    · by_cases hx : x = 0
      · have e0 : (x != 0) = false := by simp [hx]
        have HX := Lib.hid hx
        clear hx
        go_wp2_with fail
        go_round
        case rel => exact Or.inr (Or.inl ⟨by go_num, HX.out⟩)
        case measure => simp [intOf]
      · have e0 : (x != 0) = true := by simp [hx]
        have hrx : r = x := by rw [← HR.out]; unfold orI; rw [if_neg hx]
        subst hrx
        clear hx
        go_wp2_with fail
        go_ret
        exact ⟨rfl, rfl⟩
    · by_cases hy : y = 0
      · have e0 : (y != 0) = false := by simp [hy]
        have HX := Lib.hid (And.intro hx hy)
        clear hx hy
        go_wp2_with fail
        go_round
        case rel => exact Or.inr (Or.inr ⟨by go_num, HX.out⟩)
        case measure => simp [intOf]
      · have e0 : (y != 0) = true := by simp [hy]
        have hrx : r = y := by rw [← HR.out]; unfold orI; rw [if_pos hx]
        subst hrx
        clear hx hy
        go_wp2_with fail
        go_ret
        exact ⟨rfl, rfl⟩
    · have hrx : r = 0 := by rw [← HR.out]; unfold orI; rw [if_pos hx, hy]
      subst hrx
      clear hx hy
      go_wp2_with fail
      go_ret
      exact ⟨rfl, rfl⟩
/-- What the closure says of two timers. -/
def cmpT (x y : Tm) : Int := orI (Lib.compareInt x.a y.a) (Lib.compareInt x.ord y.ord)
theorem cmpT_lt (x y : Tm) : decide (cmpT x y < 0) = (decide (x.a < y.a) || (decide (x.a = y.a) && decide (x.ord < y.ord))) := by
  unfold cmpT orI Lib.compareInt
  rw [Bool.eq_iff_iff]
  simp only [decide_eq_true_eq, Bool.or_eq_true, Bool.and_eq_true]
  repeat' split
  all_goals omega
theorem grow_one (w : World) (o : Obj) : (w.alloc o).drew = grow (w.drewN 1) #[o] := by
  have e : w.heap ++ #[o] = w.heap.push o := by simp
  unfold grow
  show _ = { (w.drewN 1) with heap := w.heap ++ #[o] }
  rw [e]
  rfl
theorem closure_any (w : World) (x y : Tb) (hx : Bk w x.b 77 (tmCells x)) (hy : Bk w y.b 77 (tmCells y)) :
    Calls Try.prog 37 #[.pointer (some ⟨x.b, 0, none⟩), .pointer (some ⟨y.b, 0, none⟩)] w fun e w' => e = .returned (.int .i64 (cmpT x.t y.t)) ∧ ∃ q os', w' = grow (w.drewN q) os' := by
  have a0 := hx.at 0 (v := .int .i64 x.t.a) rfl
  have a2 := hx.at 2 (v := .int .i64 x.t.ord) rfl
  have b0 := hy.at 0 (v := .int .i64 y.t.a) rfl
  have b2 := hy.at 2 (v := .int .i64 y.t.ord) rfl
  obtain ⟨c1, hc1⟩ : ∃ c1, Lib.compareInt x.t.a y.t.a = c1 := ⟨_, rfl⟩
  obtain ⟨c2, hc2⟩ : ∃ c2, Lib.compareInt x.t.ord y.t.ord = c2 := ⟨_, rfl⟩
  unfold cmpT
  rw [hc1, hc2]
  have hxl := hx.lt
  have hyl := hy.lt
  have H1 := Lib.hid (And.intro hc1 hc2)
  have HO := Lib.hid (or_any ((w.alloc (.cells #[.int .i64 c1, .int .i64 c2] 3)).drew) w.heap.size c1 c2 ((Bk.new w 3 #[.int .i64 c1, .int .i64 c2]).drew.at 0 rfl) ((Bk.new w 3 #[.int .i64 c1, .int .i64 c2]).drew.at 1 rfl))
  clear hx hy hc1 hc2
  go_enter Try.func37, Try.ntmps37
  go_wp2_with fail
  go_region_held3 (fun w' => w'.cell? ⟨x.b, 0, none⟩ = some (.int .i64 x.t.a) ∧ w'.cell? ⟨x.b, 2, none⟩ = some (.int .i64 x.t.ord) ∧ w'.cell? ⟨y.b, 0, none⟩ = some (.int .i64 y.t.a) ∧ w'.cell? ⟨y.b, 2, none⟩ = some (.int .i64 y.t.ord)) (first | exact ⟨a0, a2, b0, b2⟩ | go_keep)
    ((first
      | (go_at_call 39; (with_reducible refine (Try.cmp_Compare_int x.t.a y.t.a _).mono ?_); rw [H1.out.1]; rintro e w' ⟨rfl, rfl⟩)
      | (go_at_call 39; (with_reducible refine (Try.cmp_Compare_int x.t.ord y.t.ord _).mono ?_); rw [H1.out.2]; rintro e w' ⟨rfl, rfl⟩)
      | (go_at_call 38; (with_reducible refine HO.out.mono ?_); rintro e w' ⟨rfl, rfl⟩)))
  go_wp2_with fail
  go_ret
  exact ⟨rfl, 1, #[.cells #[.int .i64 c1, .int .i64 c2] 3], grow_one _ _⟩

section
variable {α : Type} [Inhabited α] {enc : α → Value}
theorem holdsA {w : World} {g : Nat} {cur : Array Value} {e : TypeId} {ss : List α} (hb : w.heap[g]? = some (.cells cur e (0, 0))) (ht : cur.toList.take ss.length = ss.map enc) : Holds enc w g 0 ss.toArray := by
  intro j hj
  have hj' : j < ss.length := by simpa using hj
  refine ⟨?_, by simp [World.frozen?, hb]⟩
  have h1 : (cur.toList.take ss.length)[j]? = (ss.map enc)[j]? := by rw [ht]
  rw [List.getElem?_take_of_lt hj'] at h1
  simp only [World.cell?, hb, Nat.zero_add]
  simp only [Option.isSome_none, Bool.false_eq_true, if_false]
  rw [← Array.getElem?_toList, h1]
  simp [hj']
theorem heapA {w : World} {g n : Nat} {os : Array Obj} {cur : Array Value} {e : TypeId} {fr : Nat × Nat} (d : Array α) (hb : w.heap[g]? = some (.cells cur e fr)) :
    (grow (putRow enc (Sort.ahead w n) g 0 d) os).heap[g]? = some (.cells (putCells enc 0 d cur) e fr) := by
  have hg : g < w.heap.size := (Array.getElem?_eq_some_iff.1 hb).1
  rw [heap_grow_old _ _ (by simpa using hg)]
  simp [putRow, mapBlock, Sort.ahead, Array.getElem?_modify, hb, onCells]
theorem grownA {w : World} {g n : Nat} {os : Array Obj} (d : Array α) : w.grownBy (grow (putRow enc (Sort.ahead w n) g 0 d) os) (some g) := by
  refine ⟨rfl, rfl, rfl, by simp, fun k hk hne => ?_⟩
  rw [heap_grow_old _ _ (by simpa using hk)]
  have : g ≠ k := fun e => hne (by rw [e])
  simp [putRow, mapBlock, Sort.ahead, Array.getElem?_modify, this]
theorem takeA (cur : Array Value) (ts : List α) (h : ts.length ≤ cur.size) : (putCells enc 0 ts.toArray cur).toList.take ts.length = ts.map enc := by
  apply List.ext_getElem?
  intro j
  by_cases hj : j < ts.length
  · rw [List.getElem?_take_of_lt hj, Array.getElem?_toList]
    simp [putCells, hj, show j < cur.size by omega]
  · rw [List.getElem?_take_eq_none (by omega), List.getElem?_eq_none (by simp; omega)]
theorem rowA {w : World} {base g cap n : Nat} {e : TypeId} {os : Array Obj} {cur : Array Value} {ss ts : List α} (hl : ts.length = ss.length) (hbase : base ≤ g) (hb : w.heap[g]? = some (.cells cur e (0, 0)))
    (h1 : ss.length ≤ cap) (h2 : cap ≤ maxLen) (h3 : cur.size = cap * 1) :
    (grow (putRow enc (Sort.ahead w n) g 0 ts.toArray) os).ownsRow base e 1 (.slice (some ⟨g, 0, none⟩) ss.length cap) ss.length (ts.map enc) :=
  ⟨by simp [hl], .inr ⟨g, cap, _, rfl, hbase, heapA _ hb, h1, h2, by simp [putCells, h3], by rw [Nat.mul_one, ← hl]; exact takeA cur ts (by omega)⟩⟩
end
theorem extractA {α : Type} (a : Array α) {n : Nat} (h : a.size = n) : (a.extract 0 n).toList = a.toList := by subst h; simp
def ptrT (x : Tb) : Value := .pointer (some ⟨x.b, 0, none⟩)
theorem sort_any (w : World) (B : Nat) (v : Value) (F : List Tb) (hown : w.ownsRow B 75 1 v F.length (F.map ptrT)) (hF : ∀ x ∈ F, Bk w x.b 77 (tmCells x)) (hl : F.length ≤ 1000000) :
    Calls Try.prog 36 #[v, .func (.func 37) #[] #[]] w fun e w' => e = .returned (.tuple #[]) ∧
      ∃ F' : List Tb, F'.Perm F ∧ F'.Pairwise (fun x y => leT x.t y.t = true) ∧ w'.ownsRow B 75 1 v F.length (F'.map ptrT) ∧ Sm (fun b => v.ownBlock = some b) w w' := by
  by_cases hn : F = []
  · subst hn
    rcases own_row_form hown with ⟨rfl, _, _⟩ | ⟨g, cap, rfl, _⟩
    · exact (AnyF.slices_SortFunc_none { Try.sortL with } none 0 _ w).mono fun e w' ⟨he, hw⟩ => ⟨he, [], List.Perm.refl _, List.Pairwise.nil, by rw [hw]; exact hown, hw ▸ Sm.refl _ _⟩
    · exact (AnyF.slices_SortFunc_none { Try.sortL with } (some ⟨g, 0, none⟩) cap _ w).mono fun e w' ⟨he, hw⟩ => ⟨he, [], List.Perm.refl _, List.Pairwise.nil, by rw [hw]; exact hown, hw ▸ Sm.refl _ _⟩
  · have hpos : 0 < F.length := List.length_pos_iff.2 hn
    rcases hown.2 with ⟨_, h1⟩ | ⟨g, cap, cur, rfl, hg, hh, hnc, hcm, hcs, ht⟩
    · omega
    · letI : Inhabited (Fin F.length) := ⟨⟨0, hpos⟩⟩
      have hlen : (List.finRange F.length).length = F.length := by simp
      have hmap : (List.finRange F.length).map (fun i : Fin F.length => ptrT F[i]) = F.map ptrT := by
        apply List.ext_getElem (by simp)
        intro i h1 h2
        simp
      have eg : ∀ args w, (callFunc 37 args).run Try.prog w = .ok (.enter 37 args) w := enters_of Try.func37 (by kernel_rfl) rfl
      have hlt : ∀ x y : Fin F.length, ltOf (fun x y : Fin F.length => cmpT F[x].t F[y].t) x y = (decide (F[x].t.a < F[y].t.a) || (decide (F[x].t.a = F[y].t.a) && decide (F[x].t.ord < F[y].t.ord))) := fun x y => cmpT_lt _ _
      have hswo : SWO (ltOf (fun x y : Fin F.length => cmpT F[x].t F[y].t)) := {
        irrefl := fun x => by rw [hlt]; simp
        trans := fun x y z h1 h2 => by rw [hlt] at *; simp at *; omega
        ntrans := fun x y z h1 h2 => by rw [hlt] at *; simp at *; omega }
      have hcmp : CmpLays1 Try.prog 37 #[] (fun i : Fin F.length => ptrT F[i]) (fun x y : Fin F.length => cmpT F[x].t F[y].t) g 0 (List.finRange F.length).toArray.size w := by
        intro m os dk _ x y
        have hb : ∀ i : Fin F.length, Bk (sortWorld (fun i : Fin F.length => ptrT F[i]) w g 0 m dk os) F[i].b 77 (tmCells F[i]) := fun i =>
          (hF _ (List.getElem_mem i.2)).grown (grownA dk) (fun e => by
            injection e with e
            have h1 := hF _ (List.getElem_mem i.2)
            unfold Bk at h1
            rw [show F[i.1].b = g from e, hh] at h1
            injection h1 with h1
            injection h1 with _ h1
            exact absurd h1 (by decide))
        exact closure_any _ F[x] F[y] (hb x) (hb y)
      have hc := Any.slices_SortFunc Try.sortL (fun i : Fin F.length => ptrT F[i]) (fun _ => rfl) (fun x y : Fin F.length => cmpT F[x].t F[y].t) hswo 37 #[] g 0 cap (List.finRange F.length).toArray w eg hcmp (holdsA hh (by rw [hlen, hmap]; rw [Nat.mul_one] at ht; exact ht)) (Array.getElem?_eq_some_iff.1 hh).1 (by simp; omega)
      have e1 : (List.finRange F.length).toArray.size = F.length := by simp
      rw [e1] at hc
      change Calls Try.prog 36 _ _ _ at hc
      refine hc.mono ?_
      rintro e w' ⟨he, d', n, os, hperm, hsort, rfl⟩
      obtain ⟨hp1, _, hp3⟩ := hperm
      rw [e1] at hp1
      have hp4 : d'.toList.Perm (List.finRange F.length) := by
        have e2 := extractA d' hp1
        have e3 := extractA _ e1
        rw [e2, e3] at hp3
        exact hp3
      have hFl : F = (List.finRange F.length).map (fun i => F[i]) := by
        apply List.ext_getElem (by simp)
        intro i h1 h2
        simp
      refine ⟨he, d'.toList.map (fun i => F[i]), ?_, ?_, ?_, (Sm.refl _ w).grown (grownA d') (fun k hk => Or.inl hk)⟩
      · have := hp4.map (fun i : Fin F.length => F[i])
        rw [← hFl] at this
        exact this
      · rw [List.pairwise_map, List.pairwise_iff_getElem]
        intro i j hi hj hij
        have hs := hsort i j (Nat.zero_le _) hij (by simp at hj; omega)
        rw [hlt] at hs
        have e2 : d'[i]! = d'.toList[i] := by simp at hi; simp [hi]
        have e3 : d'[j]! = d'.toList[j] := by simp at hj; simp [hj]
        rw [e2, e3] at hs
        simp [leT] at hs ⊢
        omega
      · have h5 := rowA (enc := fun i : Fin F.length => ptrT F[i]) (w := w) (base := B) (g := g) (cap := cap) (n := n) (os := os) (ss := List.finRange F.length) (ts := d'.toList) (by simp [hp1]) hg hh (by rw [hlen]; exact hnc) hcm hcs
        rw [hlen] at h5
        rw [List.map_map]
        exact h5
end Go.Proofs.Ytgmgjkafdkgalaa
