/- Routes in memory: maps from texts to slices, slices of texts that are kept, a Router whole. -/
import Derived.Test.YtnopbhboamembaaDoorRoutA
import Derived.Test.YtnopbhboamembaaDoorOwnMore
import Derived.Test.YtnopbhboamembaaDoorTargB
import Derived.Maps.OwnSet
import Derived.StringKeys
namespace Go.Proofs.YtnopbhboamembaaDoor
open Go.RowKit Go.Proofs Go.Maps

/-- An entry of a map as it is. -/
def RR (v : Value) : Option (DataW Value × List MemPlace) := some (.held v, [])
def nilV : Value := .slice none 0 0


/-- Block b is a map from texts to slices of routes; f says which. -/
def MapT (w : World) (b n : Nat) (f : Txt → Value) : Prop :=
  ∃ D : DataW Value, w.ownsMap Tryd.prog 9 RR b n D ∧ ∀ s : Txt, D.atKey (.string s) (.held nilV) = .held (f s)

theorem lawT : Keyed Tryd.prog 9 := string_keyed Tryd.underlying9
theorem zeroRoutes (w : World) : (zeroValue 84).run Tryd.prog w = .ok nilV w := by kernel_rfl

section
variable {S : Nat → Prop} {w w' : World} {b n : Nat} {f : Txt → Value}
theorem MapT.made (w : World) : MapT (w.alloc (.map #[] 0)) w.heap.size 0 (fun _ => nilV) := ⟨.map [], World.ownsMap_made w _ _ _, fun _ => rfl⟩
theorem MapT.sm (h : MapT w b n f) (hs : Sm S w w') (hb : ¬ S b) : MapT w' b n f := by
  obtain ⟨D, h1, h2⟩ := h
  exact ⟨D, own_sm h1 hs hb, h2⟩
theorem MapT.mono (h : MapT w b n f) {m : Nat} (hm : n ≤ m) : MapT w b m f := by
  obtain ⟨D, h1, h2⟩ := h
  exact ⟨D, h1.mono hm, h2⟩
theorem MapT.lt (h : MapT w b n f) : b < w.heap.size := by
  obtain ⟨D, h1, _⟩ := h
  exact h1.lt
theorem MapT.isMap (h : MapT w b n f) : ∃ es clock, w.heap[b]? = some (.map es clock) := by
  obtain ⟨D, ⟨es, clock, h1, _⟩, _⟩ := h
  exact ⟨es, clock, h1⟩
set_option maxRecDepth 100000 in
theorem MapT.look (h : MapT w b n f) (s : ByteArray) (hs : s.size ≤ 1000000) :
    (Instr.lookup 78 (.map (some b)) (.string s) false).run Tryd.prog w = .ok (f (txt s)) w := by
  obtain ⟨D, h1, h2⟩ := h
  obtain ⟨v, ps, hrun, hv⟩ := h1.lookup lawT Tryd.underlying78 (zeroRoutes w) (zd := .held nilV) (zp := []) rfl (WideMaps.keyOf_string_mk Tryd.underlying9 (s := s) (by unfold maxLen; omega))
  rw [h2] at hv
  unfold RR at hv
  injection hv with hv
  have e := (Prod.mk.inj hv).1
  injection e with e
  subst e
  exact hrun
set_option maxRecDepth 100000 in
theorem MapT.put (h : MapT w b n f) (hn : n ≤ 1000000) (s : ByteArray) (hs : s.size ≤ 1000000) (v : Value) :
    ∃ w', (Instr.mapUpdate 78 (.map (some b)) (.string s) v).run Tryd.prog w = .ok () w' ∧ MapT w' b (n + 1) (fun q => if q = txt s then v else f q) ∧ Sm (fun g => g = b) w w' := by
  obtain ⟨D, h1, h2⟩ := h
  obtain ⟨w', hrun, ho, hg⟩ := h1.update lawT Tryd.underlying78 (by unfold maxLen; omega) (val := v) (d := .held v) (ps := []) (WideMaps.keyOf_string_mk Tryd.underlying9 (s := s) (by unfold maxLen; omega)) rfl
  refine ⟨w', hrun, ⟨_, ho, fun q => ?_⟩, (Sm.refl _ w).grown hg (fun k hk => Or.inl (by injection hk with hk; exact hk.symm))⟩
  obtain ⟨es, clock, _, _, _, hD⟩ := h1
  have hmap : IsMap D := ⟨_, hD⟩
  by_cases e : q = txt s
  · subst e
    show _ = DataW.held (if txt s = txt s then v else f (txt s))
    rw [if_pos rfl]
    exact atKey_put_same hmap (by simp [WideAt.IsKeyLit]) _ _
  · show _ = DataW.held (if q = txt s then v else f q)
    rw [if_neg e, atKey_put_other (fun e' => e (by injection e'))]
    exact h2 q
end

theorem wpList_put_text {w : World} {ops : Array Oper} {rest : List Oper} {o : Oper} {a : Act} {Q : Exit → Act → World → Prop} (hgd : o.guard = none) (mo x vo : Operand) (hop : o.op = .mapUpdate 78 mo x vo)
    (m n : Nat) (f : Txt → Value) (hm : a.eval mo = .map (some m)) (h : MapT w m n f) (hn : n ≤ 1000000) (s : ByteArray) (hs : s.size ≤ 1000000) (v : Value) (hx : a.eval x = .string s) (hv : a.eval vo = v)
    (hK : ∀ w', MapT w' m (n + 1) (fun q => if q = txt s then v else f q) → Sm (fun g => g = m) w w' → wpList Tryd.prog ops Q rest (a.put o.dst undef) w') : wpList Tryd.prog ops Q (o :: rest) a w := by
  refine wpList_plain hgd fun K' hK' => ?_
  obtain ⟨w', hrun, r1, r2⟩ := h.put hn s hs v
  unfold Oper.wp
  simp [execOp, hop, hm, hx, hv, hrun, Result.andThen]
  exact hK' _ _ (hK w' r1 r2)

theorem own_lt {B size n : Nat} {t : TypeId} {w : World} {v : Value} {xs : List Value} (h : w.ownsRow B t size v n xs) {g : Nat} (hg : v.ownBlock = some g) : g < w.heap.size := by
  rcases own_row_form h with ⟨rfl, _, _⟩ | ⟨g', cap, rfl, hg', _, hb, _⟩
  · cases hg
  · rw [hg'] at hg
    injection hg with hg
    omega
/-- A block holds cells of one type alone. -/
theorem own_type {B size n : Nat} {t : TypeId} {w : World} {v : Value} {xs : List Value} (h : w.ownsRow B t size v n xs) {g : Nat} (hg : v.ownBlock = some g) : ∃ cur, w.heap[g]? = some (.cells cur t (0, 0)) := by
  rcases h.2 with ⟨rfl, _⟩ | ⟨g', cap, cur, rfl, _, hh, _⟩
  · cases hg
  · have : g' = g := by simpa [Value.ownBlock] using hg
    subst this
    exact ⟨cur, hh⟩

/-- Routes as they stand in a row: a number, and a slice of methods. -/
def rcells (l : List (Lt × Value)) : List Value := l.flatMap fun x => [.int .i64 x.1.id, x.2]
theorem rcells_len (l : List (Lt × Value)) : (rcells l).length = l.length * 2 := by
  induction l with
  | nil => rfl
  | cons x l ih => simp only [rcells, List.flatMap_cons, List.length_append, List.length_cons, List.length_nil] at ih ⊢; omega
theorem rcells_at {l : List (Lt × Value)} {k : Nat} (h : k < l.length) : (rcells l)[k * 2]? = some (.int .i64 l[k].1.id) ∧ (rcells l)[k * 2 + 1]? = some l[k].2 := by
  induction l generalizing k with
  | nil => simp at h
  | cons x l ih =>
    cases k with
    | zero => exact ⟨rfl, rfl⟩
    | succ k =>
      have hk : k < l.length := by simpa using h
      obtain ⟨h1, h2⟩ := ih hk
      have e1 : (k + 1) * 2 = k * 2 + 2 := by omega
      rw [e1]
      exact ⟨h1, h2⟩

/-- What a Router's blocks hold: l: the routes by their keys, f: the slices. All its blocks are of O. -/
structure Rts (w : World) (O : Nat → Prop) (f : Bool → Txt → Value) (l : Bool → Txt → List (Lt × Value)) : Prop where
  own : ∀ d q, w.ownsRow 0 86 2 (f d q) (l d q).length (rcells (l d q))
  nil : ∀ d q, l d q = [] → f d q = nilV
  ms : ∀ d q, ∀ x ∈ l d q, OwnT w 0 x.2 x.1.ms
  apart : ∀ d q d' q', (d, q) ≠ (d', q') → (f d q).ownBlock = none ∨ (f d q).ownBlock ≠ (f d' q').ownBlock
  inO : ∀ d q g, (f d q).ownBlock = some g → O g
  inM : ∀ d q, ∀ x ∈ l d q, ∀ g, x.2.ownBlock = some g → O g

/-- A Router with the routes L; its blocks are of O. -/
def IsRouter (w : World) (O : Nat → Prop) (r : Nat) (L : List Lt) : Prop :=
  ∃ ba bu f l, Bk w r 80 #[.map (some ba), .map (some bu), .int .i64 L.length] ∧ MapT w ba L.length (f false) ∧ MapT w bu L.length (f true) ∧ Rts w O f l ∧ (∀ d q, (l d q).map Prod.fst = sel L (d, q)) ∧
    O r ∧ O ba ∧ O bu ∧ ba ≠ bu ∧ ∀ b, O b → b < w.heap.size

theorem Rts.sm {S O : Nat → Prop} {w w' : World} {f : Bool → Txt → Value} {l : Bool → Txt → List (Lt × Value)} (h : Rts w O f l) (hs : Sm S w w') (hS : ∀ b, O b → ¬ S b) : Rts w' O f l where
  own := fun d q => own_row_sm (h.own d q) hs (fun g hg => hS g (h.inO d q g hg))
  nil := h.nil
  ms := fun d q x hx => own_row_sm (h.ms d q x hx) hs (fun g h2 => hS g (h.inM d q x hx g h2))
  apart := h.apart
  inO := h.inO
  inM := h.inM
theorem Rts.mono {O O' : Nat → Prop} {w : World} {f : Bool → Txt → Value} {l : Bool → Txt → List (Lt × Value)} (h : Rts w O f l) (hO : ∀ b, O b → O' b) : Rts w O' f l :=
  ⟨h.own, h.nil, h.ms, h.apart, fun d q g hg => hO g (h.inO d q g hg), fun d q x hx g h2 => hO g (h.inM d q x hx g h2)⟩
theorem IsRouter.sm {S O : Nat → Prop} {w w' : World} {r : Nat} {L : List Lt} (h : IsRouter w O r L) (hs : Sm S w w') (hS : ∀ b, O b → ¬ S b) : IsRouter w' O r L := by
  obtain ⟨ba, bu, f, l, h1, h2, h3, h4, h5, h6, h7, h8, h9, h10⟩ := h
  exact ⟨ba, bu, f, l, h1.sm hs (hS r h6), h2.sm hs (hS ba h7), h3.sm hs (hS bu h8), h4.sm hs hS, h5, h6, h7, h8, h9, fun b hb => Nat.lt_of_lt_of_le (h10 b hb) hs.size⟩
theorem IsRouter.no {O : Nat → Prop} {w w' : World} {r : Nat} {L : List Lt} (h : IsRouter w O r L) (hs : Sm No w w') : IsRouter w' O r L := h.sm hs (fun _ _ h => h)
end Go.Proofs.YtnopbhboamembaaDoor
