/- Arguments opened: a slice element by element, each with its own reading; rows of texts. -/
import Derived.Test.YtgmgjkafdkgalaaMem
import Derived.OpenShut
import Derived.Deep.Slices
import Derived.SizedLaws
namespace Go.Proofs.Ytgmgjkafdkgalaa
open Go.RowKit Go.WideShapes Go.ChangeShapes Go.Proofs Go.Deep

section
variable {H : Type} {enc : TypeId × Value → H} {P : Program} {w : World}

theorem weightsAll_mem {e : TypeId} {D : DataW H} {m : Nat} : ∀ {l : List (DataW H)}, D ∈ l → m ∈ D.weights P e → m ∈ DataW.weightsAll P e l
  | x :: l, h, hm => by
    simp only [DataW.weightsAll, List.mem_append]
    rcases List.mem_cons.1 h with rfl | h
    · exact Or.inl hm
    · exact Or.inr (weightsAll_mem h hm)

/-- A slice that came in, element by element: its cells, its own reading, its weights. -/
theorem open_row {t e : TypeId} {fuel : Nat} {v : Value} {d : DataW H} {ps : List MemPlace} (ht : P.underlying t = some (.slice e)) {n : Nat} (hc : P.cellsOf e = n) (hn : 0 < n)
    (h : DataW.trod enc P w 0 (fun _ => true) true fuel t [v] = some (d, ps)) :
    v = .slice none 0 0 ∨ ∃ (a : Addr) (len cap : Nat), v = .slice (some a) len cap ∧ len ≤ cap ∧ cap ≤ maxLen ∧ cap * P.bytesOf e ∈ d.weights P t ∧
      ∀ i, i < len → ∃ (bb off : Nat) (cs : List Value) (D : DataW H) (Pl : List MemPlace) (k : Nat), a = ⟨bb, off, none⟩ ∧ bb < w.heap.size ∧ cs.length = n ∧ (∀ j, j < n → w.cell? ⟨bb, off + i * n + j, none⟩ = cs[j]?) ∧
        DataW.trod enc P w 0 (fun _ => true) true k e cs = some (D, Pl) ∧ ∀ m ∈ D.weights P e, m ∈ d.weights P t := by
  rcases open_slice ht h with ⟨h1, _⟩ | ⟨a, len, cap, m, k, D, Pl, hcs, hb, hl, hm, hmm, hx, hall⟩
  · left; simpa using h1
  right
  simp only [if_true] at hmm
  subst hmm
  have hd : d = .slice ((List.range len).map D) ((List.range (m - len)).map fun j => D (len + j)) := (Prod.ext_iff.1 hx).1
  have hv : v = .slice (some a) len m := by simpa using hcs
  have hw : d.weights P t = m * P.bytesOf e :: (DataW.weightsAll P e ((List.range len).map D) ++ DataW.weightsAll P e ((List.range (m - len)).map fun j => D (len + j))) := by
    rw [hd, DataW.weights]
    simp only [ht, List.length_map, List.length_range]
    rw [show len + (m - len) = m by omega]
  refine ⟨a, len, m, hv, hl, hm, by rw [hw]; simp, fun i hi => ?_⟩
  obtain ⟨cs, h1, h2⟩ := hall i (by omega)
  rw [hc] at h1
  obtain ⟨_, hlen, hcell⟩ := World.cells?_some h1
  obtain ⟨c0, g1, _⟩ := hall 0 (by omega)
  rw [hc] at g1
  obtain ⟨_, glen, gcell⟩ := World.cells?_some g1
  have hsp := gcell 0 hn
  rw [show c0[0]? = some (c0[0]'(by omega)) by simp] at hsp
  obtain ⟨bb, off, spot⟩ := a
  have hspot : spot = none := by
    have := World.cell?_spot hsp
    simpa [Addr.add] using this
  subst hspot
  have hblk : bb < w.heap.size := by
    have := World.block_lt_of_cell? w _ hsp
    simpa [Addr.add] using this
  refine ⟨bb, off, cs, D i, Pl i, k, rfl, hblk, hlen, fun j hj => ?_, h2, fun x hx' => ?_⟩
  · have := hcell j hj
    rw [add_add, add_plain, ← Nat.add_assoc] at this
    exact this
  · rw [hw]
    refine List.mem_cons_of_mem _ (List.mem_append_left _ (weightsAll_mem (List.mem_map.2 ⟨i, List.mem_range.2 hi, rfl⟩) hx'))
end

section
variable {H : Type} {enc : TypeId × Value → H} {P : Program} {w : World}
/-- A struct that came in, a field of it: its own reading, its weights. -/
theorem open_part {t : TypeId} {fs : Array Field} {fuel : Nat} {cs : List Value} {D : DataW H} {Pl : List MemPlace} (ht : P.underlying t = some (.struct fs)) (h : DataW.trod enc P w 0 (fun _ => true) true fuel t cs = some (D, Pl))
    (i : Nat) {f : Field} (hf : fs[i]? = some f) {n : Nat} (hn : P.cellsOf f.type = n) : ∃ k d p, DataW.trod enc P w 0 (fun _ => true) true k f.type ((cs.drop f.offset).take n) = some (d, p) ∧ ∀ m ∈ d.weights P f.type, m ∈ D.weights P t := by
  obtain ⟨xs, k, _, hx, _, hlen, hall⟩ := DataW.trod_struct ht h
  have h1 := hall i f hf
  have hi : i < xs.length := by rw [hlen]; exact (Array.getElem?_eq_some_iff.1 hf).1
  rw [List.getElem?_eq_getElem hi, hn] at h1
  refine ⟨k, xs[i].1, xs[i].2, h1, fun m hm => ?_⟩
  have hD : D = .agg (xs.map (·.1)) := (Prod.ext_iff.1 hx).1
  rw [hD, DataW.weights]
  simp only [ht]
  exact DataW.weights_mem_each (j := i) (t := f.type) (d := xs[i].1) (by simp [hf]) (by simp [hi]) m hm
end

/-- A slice of texts that can be read. -/
def SRow (w : World) (A : Option Addr) (l : List ByteArray) : Prop :=
  ∀ k, (h : k < l.length) → ∃ bb off, A = some ⟨bb, off, none⟩ ∧ bb < w.heap.size ∧ w.cell? ⟨bb, off + k, none⟩ = some (.string l[k])
/-- What is known of a slice of texts that came in. -/
def ArgS (w : World) (A : Option Addr) (l : List ByteArray) (c : Nat) : Prop :=
  SRow w A l ∧ l.length ≤ c ∧ c ≤ 8796093022208 ∧ (∀ x ∈ l, x.size ≤ 140737488351232) ∧ (A = none → c = 0)

theorem SRow.sm {S : Nat → Prop} {w w' : World} {A : Option Addr} {l : List ByteArray} (h : SRow w A l) (hs : Sm S w w') (hA : ∀ a, A = some a → ¬ S a.block) : SRow w' A l := by
  intro k hk
  obtain ⟨bb, off, hA', hb, h1⟩ := h k hk
  have e := hs.block bb hb (hA _ hA')
  exact ⟨bb, off, hA', Nat.lt_of_lt_of_le hb hs.size, (World.cell?_of_block (w := w) (a := ⟨bb, _, none⟩) e).trans h1⟩
theorem SRow.no {w w' : World} {A : Option Addr} {l : List ByteArray} (h : SRow w A l) (hs : Sm No w w') : SRow w' A l := h.sm hs (fun _ _ h => h)
theorem ArgS.no {w w' : World} {A : Option Addr} {l : List ByteArray} {c : Nat} (h : ArgS w A l c) (hs : Sm No w w') : ArgS w' A l c := ⟨h.1.no hs, h.2⟩

section
variable {H : Type} {enc : TypeId × Value → H} {P : Program} {w : World}
theorem open_strs_at {t e : TypeId} {fuel : Nat} {v : Value} {d : DataW H} {ps : List MemPlace} (ht : P.underlying t = some (.slice e)) (he : P.underlying e = some .string) (hc : P.cellsOf e = 1) (hby : P.bytesOf e = 16)
    (h : DataW.trod enc P w 0 (fun _ => true) true fuel t [v] = some (d, ps)) (hz : ∀ n ∈ d.weights P t, n ≤ 140737488351232) : ∃ A l c, v = .slice A l.length c ∧ ArgS w A l c := by
  rcases open_row ht hc (by decide) h with rfl | ⟨a, len, cap, rfl, hl, hm, hwt, hall⟩
  · exact ⟨none, [], 0, rfl, fun k hk => absurd hk (by simp), Nat.le_refl _, by omega, by simp, fun _ => rfl⟩
  · have each : ∀ i, i < len → ∃ s : ByteArray, s.size ≤ 140737488351232 ∧ ∃ bb off, a = ⟨bb, off, none⟩ ∧ bb < w.heap.size ∧ w.cell? ⟨bb, off + i, none⟩ = some (.string s) := fun i hi => by
      obtain ⟨bb, off, cs, D, Pl, k, hA, hb, hlen, hcell, htr, hw⟩ := hall i hi
      obtain ⟨s, rfl, hx, _⟩ := DataW.trod_string he htr
      have hD : D = .lit (.string s.data.toList) := (Prod.ext_iff.1 hx).1
      refine ⟨s, ?_, bb, off, hA, hb, ?_⟩
      · have := hz s.data.toList.length (hw _ (by rw [hD]; simp [DataW.weights]))
        simpa using this
      · have := hcell 0 (by decide)
        simpa using this
    obtain ⟨f, hf⟩ := choose_lt each
    have hcap := hz _ hwt
    rw [hby] at hcap
    refine ⟨some a, (List.range len).map f, cap, by simp, fun k hk => ?_, by simpa using hl, by omega, fun x hx => ?_, fun h => by cases h⟩
    · have hk' : k < len := by simpa using hk
      obtain ⟨_, bb, off, hA, hb, h1⟩ := hf k hk'
      exact ⟨bb, off, by rw [hA], hb, by simpa using h1⟩
    · obtain ⟨i, hi, rfl⟩ := List.mem_map.1 hx
      exact (hf i (List.mem_range.1 hi)).1
end
end Go.Proofs.Ytgmgjkafdkgalaa
