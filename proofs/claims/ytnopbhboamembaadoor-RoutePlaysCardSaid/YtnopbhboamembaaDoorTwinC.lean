/- The document's Router in memory; Add. -/
import Derived.Test.YtnopbhboamembaaDoorTwinB
import Derived.Test.YtnopbhboamembaaDoorOwnStep
import Derived.Test.YtnopbhboamembaaDoorRoutF0
import Derived.Deep.QuietTactic
import Derived.BigQuiet
import Derived.Deep.RegionHeld3
namespace Go.Proofs.YtnopbhboamembaaDoor
open Go.RowKit Go.Proofs

def tcells (l : List (Lt × Value)) : List Value := l.flatMap fun x => [strB x.1.pat, .int .i64 x.1.id, x.2]
theorem tcells_len (l : List (Lt × Value)) : (tcells l).length = l.length * 3 := by
  induction l with
  | nil => rfl
  | cons x l ih => simp only [tcells, List.flatMap_cons, List.length_append, List.length_cons, List.length_nil] at ih ⊢; omega
theorem tcells_at {l : List (Lt × Value)} {k : Nat} (h : k < l.length) : (tcells l)[k * 3]? = some (strB l[k].1.pat) ∧ (tcells l)[k * 3 + 1]? = some (.int .i64 l[k].1.id) ∧ (tcells l)[k * 3 + 2]? = some l[k].2 := by
  induction l generalizing k with
  | nil => simp at h
  | cons x l ih =>
    cases k with
    | zero => exact ⟨rfl, rfl, rfl⟩
    | succ k =>
      obtain ⟨h1, h2, h3⟩ := ih (k := k) (by simpa using h)
      have e1 : (k + 1) * 3 = k * 3 + 3 := by omega
      rw [e1]
      exact ⟨h1, h2, h3⟩
theorem infoTw : (Tryd.prog.info? 94).map (fun i => (i.zero, i.size, i.bytes)) = some (some (.agg #[.string ⟨#[]⟩, .int .i64 0, .slice none 0 0]), 3, 48) := by kernel_rfl

def TwP (w : World) (O : Nat → Prop) (r : Nat) (L : List Lt) (v : Value) (l : List (Lt × Value)) : Prop :=
  Bk w r 65 #[v] ∧ w.ownsRow 0 94 3 v L.length (tcells l) ∧ l.map Prod.fst = L ∧ (∀ x ∈ l, OwnT w 0 x.2 x.1.ms) ∧ O r ∧ (∀ g, v.ownBlock = some g → O g) ∧ (∀ x ∈ l, ∀ g, x.2.ownBlock = some g → O g) ∧ ∀ b, O b → b < w.heap.size
/-- The document's Router with the routes L; its blocks are of O. -/
def IsTwin (w : World) (O : Nat → Prop) (r : Nat) (L : List Lt) : Prop := ∃ v l, TwP w O r L v l
theorem TwP.sm {S O : Nat → Prop} {w w' : World} {r : Nat} {L : List Lt} {v : Value} {l : List (Lt × Value)} (h : TwP w O r L v l) (hs : Sm S w w') (hS : ∀ b, O b → ¬ S b) : TwP w' O r L v l := by
  obtain ⟨h1, h2, h3, h4, h5, h6, h7, h8⟩ := h
  exact ⟨h1.sm hs (hS r h5), own_row_sm h2 hs (fun g hg => hS g (h6 g hg)), h3, fun x hx => own_row_sm (h4 x hx) hs (fun g hg => hS g (h7 x hx g hg)), h5, h6, h7, fun b hb => Nat.lt_of_lt_of_le (h8 b hb) hs.size⟩
theorem TwP.no {O : Nat → Prop} {w w' : World} {r : Nat} {L : List Lt} {v : Value} {l : List (Lt × Value)} (h : TwP w O r L v l) (hs : Sm No w w') : TwP w' O r L v l := h.sm hs (fun _ _ h => h)
theorem IsTwin.sm {S O : Nat → Prop} {w w' : World} {r : Nat} {L : List Lt} (h : IsTwin w O r L) (hs : Sm S w w') (hS : ∀ b, O b → ¬ S b) : IsTwin w' O r L := by
  obtain ⟨v, l, h⟩ := h
  exact ⟨v, l, h.sm hs hS⟩
theorem IsTwin.no {O : Nat → Prop} {w w' : World} {r : Nat} {L : List Lt} (h : IsTwin w O r L) (hs : Sm No w w') : IsTwin w' O r L := h.sm hs (fun _ _ h => h)
theorem TwP.form {O : Nat → Prop} {w : World} {r : Nat} {L : List Lt} {v : Value} {l : List (Lt × Value)} (h : TwP w O r L v l) : ∃ A c, v = .slice A L.length c := by
  obtain ⟨A, c, hv, _⟩ := own_rowC h.2.1
  exact ⟨A, c, hv⟩
theorem TwP.get {O : Nat → Prop} {w : World} {r n c : Nat} {L : List Lt} {A : Option Addr} {l : List (Lt × Value)} (h : TwP w O r L (.slice A n c) l) {k : Nat} (hk : k < L.length) :
    ∃ g A2 c2, A = some ⟨g, 0, none⟩ ∧ w.cell? ⟨g, k * 3, none⟩ = some (strB L[k].pat) ∧ w.cell? ⟨g, k * 3 + 1, none⟩ = some (.int .i64 L[k].id) ∧ w.cell? ⟨g, k * 3 + 2, none⟩ = some (.slice A2 L[k].ms.length c2) ∧ RowC w A2 (L[k].ms.map strV) ∧ (A2 = none → c2 = 0) := by
  obtain ⟨_, h2, rfl, h4, _⟩ := h
  have hk' : k < l.length := by simpa using hk
  rcases own_row_form h2 with ⟨_, h0, _⟩ | ⟨g, cap, hv, _, _, hb, _, hx, _⟩
  · simp at h0; subst h0; simp at hk'
  · injection hv with hv
    subst hv
    obtain ⟨e1, e2, e3⟩ := tcells_at hk'
    obtain ⟨A2, c2, hv2, hR, _, hn⟩ := own_rowC (h4 l[k] (List.getElem_mem hk'))
    have eL : (l.map Prod.fst)[k] = l[k].1 := by simp
    refine ⟨g, A2, c2, rfl, ?_, ?_, ?_, ?_, hn⟩
    · rw [eL]; exact hx _ _ e1
    · rw [eL]; exact hx _ _ e2
    · rw [eL, ← hv2]; exact hx _ _ e3
    · rw [eL]; exact hR

def rAddPost (w : World) (O : Nat → Prop) (r : Nat) (L : List Lt) (x : Lt) (e : Ending) (w' : World) : Prop :=
  e = .returned (.int .i64 (addC L x)) ∧ ∃ O' : Nat → Prop, IsTwin w' O' r (addS L x) ∧ Sm O w w' ∧ ∀ b, O' b → O b ∨ w.heap.size ≤ b
theorem rAddPost.not {w w' : World} {O : Nat → Prop} {r : Nat} {L : List Lt} {x : Lt} {c : Int} (hc : addC L x = c) (h0 : c ≠ 0) (h : IsTwin w O r L) (hs : Sm No w w') : rAddPost w O r L x (.returned (.int .i64 c)) w' := by
  refine ⟨by rw [hc], O, ?_, hs.any _, fun b hb => Or.inl hb⟩
  unfold addS
  rw [if_neg (by rw [hc]; exact h0)]
  exact h.no hs
theorem rAddPost.yes {w w4 w5 w6 : World} {O : Nat → Prop} {r : Nat} {L : List Lt} {x : Lt} {v : Value} {l : List (Lt × Value)} {cv v' : Value} (hc : addC L x = 0) (h : TwP w O r L v l) (s4 : Sm No w w4) (hcv : OwnT w4 w.heap.size cv x.ms) (s5 : Sm No w4 w5)
    (hv : w6.ownsRow 0 94 3 v' (L.length + 1) (tcells l ++ [strB x.pat, .int .i64 x.id, cv])) (s6 : Sm (fun b => v.ownBlock = some b) w5 w6) (hb : v'.ownBlock = v.ownBlock ∨ v'.ownBlock = some w5.heap.size) :
    rAddPost w O r L x (.returned (.int .i64 0)) (w6.setCell ⟨r, 0, none⟩ v') := by
  obtain ⟨h1, h2, h3, h4, h5, h6, h7, h8⟩ := h
  have z4 := s4.size
  have z5 := s5.size
  have z6 := s6.size
  have hrv : v.ownBlock ≠ some r := own_not_bk h2 h1 (by decide)
  have s7 : Sm (fun b => b = r) w6 (w6.setCell ⟨r, 0, none⟩ v') := (Sm.refl _ w6).set1 0 _
  have s47 : Sm (fun b => v.ownBlock = some b ∨ b = r) w4 (w6.setCell ⟨r, 0, none⟩ v') := ((s5.any _).trans s6 (fun b _ e => Or.inl e)).trans s7 (fun b _ e => Or.inr e)
  have s17 : Sm (fun b => v.ownBlock = some b ∨ b = r) w (w6.setCell ⟨r, 0, none⟩ v') := (s4.any _).trans s47 (fun b _ e => e)
  have hrlt := h8 r h5
  have hv'r : v'.ownBlock ≠ some r := by
    rcases hb with e | e
    · rw [e]; exact hrv
    · rw [e]; intro e; injection e with e; omega
  have hvlt : ∀ g, v.ownBlock = some g → g < w.heap.size := fun g hg => own_lt h2 hg
  refine ⟨by rw [hc], (fun b => O b ∨ (w.heap.size ≤ b ∧ b < w6.heap.size)), ?_, s17.mono (fun b _ e => ?_), fun b hb => hb.elim Or.inl (fun h => Or.inr h.1)⟩
  · unfold addS
    rw [if_pos hc]
    refine ⟨v', l ++ [(x, cv)], ((((h1.sm s4 (fun h => h)).sm s5 (fun h => h)).sm s6 hrv).set 0 _).eq rfl, ?_, by rw [List.map_append, h3]; rfl, fun y hy => ?_, Or.inl h5, fun g hg => ?_, fun y hy g hg => ?_, fun b hb => ?_⟩
    · have := own_row_sm hv s7 (fun b e hS => hv'r (hS ▸ e))
      rw [List.length_append, tcells, List.flatMap_append]
      exact this
    · rcases List.mem_append.1 hy with hy | hy
      · exact own_row_sm (h4 y hy) s17 (fun b e hS => by
          rcases hS with hS | rfl
          · exact own_not_own (h4 y hy) h2 (by decide) e hS
          · exact own_not_bk (h4 y hy) h1 (by decide) e)
      · rw [List.mem_singleton] at hy
        subst hy
        exact own_row_base (own_row_sm hcv s47 (fun b e hS => by
          have hge := (World.ownsRow.lt hcv _ e).1
          rcases hS with hS | rfl
          · have := hvlt _ hS; omega
          · omega)) (fun _ _ => Nat.zero_le _)
    · rcases hb with g2 | g2
      · exact Or.inl (h6 g (g2 ▸ hg))
      · have := own_lt hv hg
        rw [g2] at hg
        injection hg with hg
        exact Or.inr ⟨by omega, by omega⟩
    · rcases List.mem_append.1 hy with hy | hy
      · exact Or.inl (h7 y hy g hg)
      · rw [List.mem_singleton] at hy
        subst hy
        have := own_lt hcv hg
        have := (World.ownsRow.lt hcv _ hg).1
        exact Or.inr ⟨by omega, by omega⟩
    · have e0 : (w6.setCell ⟨r, 0, none⟩ v').heap.size = w6.heap.size := by simp
      rw [e0]
      rcases hb with hb | hb
      · have := h8 b hb; omega
      · exact hb.2
  · rcases e with e | rfl
    · exact h6 b e
    · exact h5
end Go.Proofs.YtnopbhboamembaaDoor
