/- A Router with one route more. -/
import Derived.Test.YtnopbhboamembaaDoorRoutE
namespace Go.Proofs.YtnopbhboamembaaDoor
open Go.RowKit Go.Proofs

/-- A Router, its parts by name. -/
def RParts (w : World) (O : Nat → Prop) (r : Nat) (L : List Lt) (ba bu : Nat) (f : Bool → Txt → Value) (l : Bool → Txt → List (Lt × Value)) : Prop :=
  Bk w r 80 #[.map (some ba), .map (some bu), .int .i64 L.length] ∧ MapT w ba L.length (f false) ∧ MapT w bu L.length (f true) ∧ Rts w O f l ∧ (∀ d q, (l d q).map Prod.fst = sel L (d, q)) ∧
    O r ∧ O ba ∧ O bu ∧ ba ≠ bu ∧ ∀ b, O b → b < w.heap.size

theorem cells_not_map {w : World} {b n : Nat} {f : Txt → Value} (h : MapT w b n f) {cs : Array Value} {t : TypeId} (hc : w.heap[b]? = some (.cells cs t (0, 0))) : False := by
  obtain ⟨es, clock, he⟩ := h.isMap
  rw [he] at hc
  cases hc
theorem own_not_map {w : World} {B size n m b : Nat} {t : TypeId} {v : Value} {xs : List Value} {f : Txt → Value} (h : w.ownsRow B t size v n xs) (hm : MapT w b m f) : v.ownBlock ≠ some b := fun e => by
  obtain ⟨cur, hc⟩ := own_type h e
  exact cells_not_map hm hc
theorem own_not_bk {w : World} {B size n b : Nat} {t t' : TypeId} {v : Value} {xs : List Value} {cs : Array Value} (h : w.ownsRow B t size v n xs) (hb : Bk w b t' cs) (ht : t ≠ t') : v.ownBlock ≠ some b := fun e => by
  obtain ⟨cur, hc⟩ := own_type h e
  unfold Bk at hb
  rw [hb] at hc
  injection hc with hc
  injection hc with _ e2
  exact ht e2.symm
theorem bk_not_map {w : World} {b m c : Nat} {t' : TypeId} {f : Txt → Value} {cs : Array Value} (hb : Bk w b t' cs) (hm : MapT w c m f) : b ≠ c := by
  rintro rfl
  exact cells_not_map hm hb
theorem own_not_own {w : World} {B B' size size' n n' : Nat} {t t' : TypeId} {v v' : Value} {xs xs' : List Value} (h : w.ownsRow B t size v n xs) (h' : w.ownsRow B' t' size' v' n' xs') (ht : t ≠ t') {b : Nat} (e : v.ownBlock = some b) : v'.ownBlock ≠ some b := fun e' => by
  obtain ⟨cur, hc⟩ := own_type h e
  obtain ⟨cur', hc'⟩ := own_type h' e'
  rw [hc] at hc'
  injection hc' with hc'
  injection hc' with _ e2
  exact ht e2

def putF (f : Bool → Txt → Value) (wd : Bool) (q : Txt) (v : Value) : Bool → Txt → Value := fun d k => if d = wd ∧ k = q then v else f d k
def putR (l : Bool → Txt → List (Lt × Value)) (wd : Bool) (q : Txt) (x : Lt × Value) : Bool → Txt → List (Lt × Value) := fun d k => if d = wd ∧ k = q then l d k ++ [x] else l d k

theorem router_add {w w4 w5 w6 w7 : World} {O : Nat → Prop} {r : Nat} {L : List Lt} {ba bu mb : Nat} {f : Bool → Txt → Value} {l : Bool → Txt → List (Lt × Value)} (h : RParts w O r L ba bu f l) {wd : Bool} {q : Txt} {x : Lt}
    (hk : keyL x.pat = (wd, q)) (hmb : (if wd = true then bu else ba) = mb) {cv v' : Value} (s4 : Sm No w w4) (hc : OwnT w4 w.heap.size cv x.ms) (s5 : Sm No w4 w5)
    (hv : w6.ownsRow 0 86 2 v' ((l wd q).length + 1) (rcells (l wd q) ++ [.int .i64 x.id, cv])) (s6 : Sm (fun b => (f wd q).ownBlock = some b) w5 w6) (hb : v'.ownBlock = (f wd q).ownBlock ∨ v'.ownBlock = some w5.heap.size)
    (hm : MapT w7 mb (L.length + 1) (fun k => if k = q then v' else f wd k)) (s7 : Sm (fun g => g = mb) w6 w7) :
    IsRouter (w7.setCell ⟨r, 2, none⟩ (.int .i64 ((L.length : Int) + 1))) (fun b => O b ∨ (w.heap.size ≤ b ∧ b < w7.heap.size)) r (L ++ [x]) ∧ Sm O w (w7.setCell ⟨r, 2, none⟩ (.int .i64 ((L.length : Int) + 1))) := by
  obtain ⟨h1, h2, h3, h4, h5, h6, h7, h8, h9, h10⟩ := h
  have hbO : O mb := by rw [← hmb]; split <;> assumption
  have hmw : MapT w mb L.length (f wd) := by
    rw [← hmb]
    cases wd
    · exact h2
    · exact h3
  have z4 := s4.size
  have z5 := s5.size
  have z6 := s6.size
  have z7 := s7.size
  have hrmb : r ≠ mb := bk_not_map h1 hmw
  have hfr : ∀ d k, (f d k).ownBlock ≠ some r := fun d k => own_not_bk (h4.own d k) h1 (by decide)
  have hfm : ∀ d k, (f d k).ownBlock ≠ some mb := fun d k => own_not_map (h4.own d k) hmw
  have hflt : ∀ d k g, (f d k).ownBlock = some g → g < w.heap.size := fun d k g hg => own_lt (h4.own d k) hg
  have s8 : Sm (fun b => b = r) w7 (w7.setCell ⟨r, 2, none⟩ (.int .i64 ((L.length : Int) + 1))) := (Sm.refl _ w7).set1 2 _
  obtain ⟨w8, hw8⟩ : ∃ w8, w7.setCell ⟨r, 2, none⟩ (.int .i64 ((L.length : Int) + 1)) = w8 := ⟨_, rfl⟩
  have z8 : w8.heap.size = w7.heap.size := by rw [← hw8]; simp
  -- all in one
  have s48 : Sm (fun b => (f wd q).ownBlock = some b ∨ b = mb ∨ b = r) w4 w8 := by
    rw [← hw8]
    exact (((s5.any _).trans s6 (fun b _ e => Or.inl e)).trans s7 (fun b _ e => Or.inr (Or.inl e))).trans s8 (fun b _ e => Or.inr (Or.inr e))
  have s18 : Sm (fun b => (f wd q).ownBlock = some b ∨ b = mb ∨ b = r) w w8 := (s4.any _).trans s48 (fun b _ e => e)
  have s68 : Sm (fun b => b = mb ∨ b = r) w6 w8 := by
    rw [← hw8]
    exact (s7.mono (fun b _ e => Or.inl e)).trans s8 (fun b _ e => Or.inr e)
  have hbr : Bk w7 r 80 #[.map (some ba), .map (some bu), .int .i64 L.length] :=
    ((((h1.sm s4 (fun h => h)).sm s5 (fun h => h)).sm s6 (hfr wd q)).sm s7 hrmb)
  have hb8 : Bk w8 r 80 #[.map (some ba), .map (some bu), .int .i64 ((L ++ [x]).length : Nat)] := by
    rw [← hw8]
    exact (hbr.set 2 _).eq (by simp)
  have hv6 : v'.ownBlock ≠ some mb ∧ v'.ownBlock ≠ some r := by
    rcases hb with e | e
    · rw [e]; exact ⟨hfm wd q, hfr wd q⟩
    · rw [e]
      have := h10 r h6
      have := h10 mb hbO
      refine ⟨fun e => ?_, fun e => ?_⟩ <;> (injection e with e; omega)
  have hv8 := own_row_sm hv s68 (fun b e hS => by
    rcases hS with rfl | rfl
    · exact hv6.1 e
    · exact hv6.2 e)
  have hc8 : OwnT w8 0 cv x.ms := own_row_base (own_row_sm hc s48 (fun b e hS => by
    have hge := (World.ownsRow.lt hc _ e).1
    rcases hS with h | rfl | rfl
    · have := hflt _ _ _ h; omega
    · have := h10 _ hbO; omega
    · have := h10 _ h6; omega)) (fun _ _ => Nat.zero_le _)
  have hO : ∀ b, O b → b < w.heap.size := h10
  refine ⟨?_, ?_⟩
  · rw [hw8]
    refine ⟨ba, bu, putF f wd q v', putR l wd q (x, cv), hb8, ?_, ?_, ?_, ?_, Or.inl h6, Or.inl h7, Or.inl h8, h9, ?_⟩
    · cases wd
      · obtain rfl : ba = mb := by simpa using hmb
        have := (hm.sm s8 (fun e => hrmb e.symm))
        rw [hw8] at this
        have e : (fun k => if k = q then v' else f false k) = putF f false q v' false := by funext k; simp [putF]
        rw [e] at this
        rw [List.length_append]; exact this
      · obtain rfl : bu = mb := by simpa using hmb
        have e : putF f true q v' false = f false := by funext k; simp [putF]
        rw [e]
        exact (h2.sm s18 (fun hS => by
          rcases hS with hS | hS | hS
          · exact own_not_map (h4.own true q) h2 hS
          · exact h9 hS
          · exact bk_not_map h1 h2 hS.symm)).mono (by simp)
    · cases wd
      · obtain rfl : ba = mb := by simpa using hmb
        have e : putF f false q v' true = f true := by funext k; simp [putF]
        rw [e]
        exact (h3.sm s18 (fun hS => by
          rcases hS with hS | hS | hS
          · exact own_not_map (h4.own false q) h3 hS
          · exact h9 hS.symm
          · exact bk_not_map h1 h3 hS.symm)).mono (by simp)
      · obtain rfl : bu = mb := by simpa using hmb
        have := (hm.sm s8 (fun e => hrmb e.symm))
        rw [hw8] at this
        have e : (fun k => if k = q then v' else f true k) = putF f true q v' true := by funext k; simp [putF]
        rw [e] at this
        rw [List.length_append]; exact this
    · have hother : ∀ d k, ¬ (d = wd ∧ k = q) → ∀ b, (f d k).ownBlock = some b → ¬ ((f wd q).ownBlock = some b ∨ b = mb ∨ b = r) := fun d k hne b e hS => by
        rcases hS with hS | rfl | rfl
        · rcases h4.apart d k wd q (fun e' => hne ⟨(Prod.mk.inj e').1, (Prod.mk.inj e').2⟩) with g | g
          · rw [g] at e; cases e
          · exact g (e.trans hS.symm)
        · exact hfm d k e
        · exact hfr d k e
      refine ⟨fun d k => ?_, fun d k => ?_, fun d k y hy => ?_, fun d k d' k' hne => ?_, fun d k g hg => ?_, fun d k y hy g hg => ?_⟩
      · unfold putF putR
        by_cases e : d = wd ∧ k = q
        · obtain ⟨rfl, rfl⟩ := e
          rw [if_pos ⟨rfl, rfl⟩, if_pos ⟨rfl, rfl⟩, List.length_append, rcells, List.flatMap_append]
          exact hv8
        · rw [if_neg e, if_neg e]
          exact own_row_sm (h4.own d k) s18 (hother d k e)
      · unfold putF putR
        by_cases e : d = wd ∧ k = q
        · rw [if_pos e, if_pos e]; simp
        · rw [if_neg e, if_neg e]; exact h4.nil d k
      · have hold : ∀ y ∈ l d k, OwnT w8 0 y.2 y.1.ms := fun y hy => own_row_sm (h4.ms d k y hy) s18 (fun b e hS => by
          rcases hS with hS | rfl | rfl
          · exact own_not_own (h4.ms d k y hy) (h4.own wd q) (by decide) e hS
          · exact own_not_map (h4.ms d k y hy) hmw e
          · exact own_not_bk (h4.ms d k y hy) h1 (by decide) e)
        unfold putR at hy
        split at hy
        · rcases List.mem_append.1 hy with hy | hy
          · exact hold y hy
          · rw [List.mem_singleton] at hy
            subst hy
            exact hc8
        · exact hold y hy
      · unfold putF
        by_cases e : d = wd ∧ k = q
        · obtain ⟨rfl, rfl⟩ := e
          have e' : ¬ (d' = d ∧ k' = k) := fun e' => hne (by rw [e'.1, e'.2])
          rw [if_pos ⟨rfl, rfl⟩, if_neg e']
          rcases hb with g | g
          · rw [g]; exact h4.apart d k d' k' hne
          · refine Or.inr (fun g2 => ?_)
            rw [g] at g2
            have := hflt _ _ _ g2.symm
            omega
        · rw [if_neg e]
          by_cases e' : d' = wd ∧ k' = q
          · obtain ⟨rfl, rfl⟩ := e'
            rw [if_pos ⟨rfl, rfl⟩]
            rcases hb with g | g
            · rw [g]; exact h4.apart d k d' k' hne
            · by_cases g3 : (f d k).ownBlock = none
              · exact Or.inl g3
              · refine Or.inr (fun g2 => ?_)
                rw [g] at g2
                have := hflt _ _ _ g2
                omega
          · rw [if_neg e']; exact h4.apart d k d' k' hne
      · unfold putF at hg
        split at hg
        · rcases hb with g2 | g2
          · exact Or.inl (h4.inO wd q g (g2 ▸ hg))
          · have := own_lt hv hg
            rw [g2] at hg
            injection hg with hg
            exact Or.inr ⟨by omega, by omega⟩
        · exact Or.inl (h4.inO d k g hg)
      · have hold : ∀ y ∈ l d k, y.2.ownBlock = some g → O g := fun y hy e => h4.inM d k y hy g e
        unfold putR at hy
        split at hy
        · rcases List.mem_append.1 hy with hy | hy
          · exact Or.inl (hold y hy hg)
          · rw [List.mem_singleton] at hy
            subst hy
            have := own_lt hc hg
            have := (World.ownsRow.lt hc _ hg).1
            exact Or.inr ⟨by omega, by omega⟩
        · exact Or.inl (hold y hy hg)
    · intro d k
      unfold putR
      rw [sel_add, hk]
      by_cases e : d = wd ∧ k = q
      · obtain ⟨rfl, rfl⟩ := e
        rw [if_pos ⟨rfl, rfl⟩, if_pos rfl, List.map_append, h5]; rfl
      · rw [if_neg e, if_neg (fun e' => e ⟨(Prod.mk.inj e').1.symm, (Prod.mk.inj e').2.symm⟩), h5]
    · intro b hb'
      rw [z8]
      rcases hb' with hb' | hb'
      · have := hO b hb'; omega
      · exact hb'.2
  · rw [hw8]
    refine s18.mono (fun b _ e => ?_)
    rcases e with e | rfl | rfl
    · exact h4.inO wd q b e
    · exact hbO
    · exact h6
end Go.Proofs.YtnopbhboamembaaDoor
