/- Laws for the walk: a struct loaded whole out of a block that is known, or stored whole into a new one. -/
import Derived.Test.YtgmgjkafdkgalaaMem
import Derived.WalkKit
namespace Go.Proofs.Ytgmgjkafdkgalaa
open Go.RowKit Go.Proofs

section
variable {P : Program}

theorem wpList_load_bk {ops : Array Oper} {rest : List Oper} {o : Oper} {a : Act} {w : World} {Q : Exit → Act → World → Prop} (hgd : o.guard = none) (ty : TypeId) (x : Operand) (ho : o.op = .load ty x)
    {fs : Array Field} (hu : P.underlying ty = some (.struct fs)) (n : Nat) (hi : (P.info? ty).map (·.size) = some n)
    (g : Nat) (hx : a.eval x = .pointer (some ⟨g, 0, none⟩)) {t : TypeId} (cs : Array Value) (hb : Bk w g t cs) (hn : cs.size = n)
    (h : wpList P ops Q rest (a.put o.dst (.agg cs)) w) : wpList P ops Q (o :: rest) a w :=
  wpList_load_row hgd ty x ho g hx t cs (0, 0) (.struct fs) hb hu rfl (by rw [hi, hn]) h

theorem setRow_new (w : World) (old cells : Array Value) (t : TypeId) (g : Nat) (hg : g = w.heap.size) : (w.alloc (.cells old t)).setRow g cells = w.alloc (.cells cells t) := by
  subst hg
  unfold World.setRow World.alloc
  congr 1
  apply Array.ext
  · simp
  · intro i h1 h2
    simp only [Array.size_push] at h2
    by_cases hi : i < w.heap.size
    · simp [Array.getElem_modify, Array.getElem_push, hi, show ¬ (w.heap.size = i) by omega]
    · have e : i = w.heap.size := by omega
      subst e
      simp [Array.getElem_modify]

theorem wpList_store_new {ops : Array Oper} {rest : List Oper} {o : Oper} {a : Act} {w : World} {Q : Exit → Act → World → Prop} (hgd : o.guard = none) (ty : TypeId) (x y : Operand) (ho : o.op = .store ty x y)
    (n : Nat) (hi : (P.info? ty).map (·.size) = some n)
    (g : Nat) (hx : a.eval x = .pointer (some ⟨g, 0, none⟩)) (cells : Array Value) (hy : a.eval y = .agg cells) (hn : cells.size = n) (h1 : cells.all (·.oneCell') = true)
    {t : TypeId} {old : Array Value} (ho' : old.size = n) (hg : g = w.heap.size)
    (h : wpList P ops Q rest (a.put o.dst undef) (w.alloc (.cells cells t))) : wpList P ops Q (o :: rest) a (w.alloc (.cells old t)) :=
  wpList_plain hgd fun _ hK => wp_store_row ty x y ho g cells hx hy t old (by subst hg; exact heap_alloc_new w _) (by rw [hi, hn]) (by omega) h1
    (by rw [setRow_new w old cells t g hg]; exact hK _ _ h)

theorem results_bk {fn : Func} {p : Tmp} {ty : TypeId} (h : fn.results = #[.cell p ty]) (tmps : Array Value) {w : World} (g : Nat) {t : TypeId} {cs : Array Value} {fs : Array Field}
    (hp : tmps.getD p undef = .pointer (some ⟨g, 0, none⟩)) (hb : Bk w g t cs) (hu : P.underlying ty = some (.struct fs)) {n : Nat} (hi : (P.info? ty).map (·.size) = some n) (hn : cs.size = n) :
    (results fn tmps).run P w = .ok (.agg cs) w :=
  results_cell_row h tmps w g t cs (0, 0) (.struct fs) hp hb hu rfl (by rw [hi, hn])
end
end Go.Proofs.Ytgmgjkafdkgalaa
