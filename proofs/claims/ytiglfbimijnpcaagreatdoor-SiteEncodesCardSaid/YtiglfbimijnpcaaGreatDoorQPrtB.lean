/- The document's Parser: Take. -/
import Derived.Test.YtiglfbimijnpcaaGreatDoorQZ
import Derived.Test.YtiglfbimijnpcaaGreatDoorQT
import Derived.Test.YtiglfbimijnpcaaGreatDoorQN
import Derived.Deep.DrawnRows
namespace Go.Proofs.YtiglfbimijnpcaaGreatDoor
open Go.RowKit Go.Proofs
attribute [local go_sem ↓] Go.wp_at_zero Go.wp_at_succ

theorem own_of_bk {w : World} {g size : Nat} {t : TypeId} (h : Bk w g t #[]) : w.ownsRow 0 t size (.slice (some ⟨g, 0, none⟩) 0 0) 0 [] :=
  ⟨by simp, Or.inr ⟨g, 0, #[], rfl, Nat.zero_le _, h, Nat.le_refl _, Nat.zero_le _, by simp, by simp⟩⟩
theorem sm_new {w1 W w5 : World} {x n c : Nat} (h : Sm No w1 W) (hs : Sm (fun b => (Value.slice (some ⟨x, 0, none⟩) n c).ownBlock = some b) W w5) (hx : w1.heap.size ≤ x) : Sm No w1 w5 :=
  h.trans hs (fun b hb e => by
    have : x = b := by simpa [Value.ownBlock] using e
    omega)
theorem bk_over {W w5 : World} {x n c g : Nat} {t t' : TypeId} {cs cs' : Array Value} (hs : Sm (fun b => (Value.slice (some ⟨x, 0, none⟩) n c).ownBlock = some b) W w5) (hx : Bk W x t cs) (ht : t ≠ t') (h : Bk W g t' cs') : Bk w5 g t' cs' :=
  h.sm hs (fun e => by
    have e2 : x = g := by simpa [Value.ownBlock] using e
    exact bk_ne hx h ht e2)
theorem row_over {W w5 : World} {x n c B size m : Nat} {t t' : TypeId} {cs : Array Value} {v : Value} {xs : List Value} (hs : Sm (fun b => (Value.slice (some ⟨x, 0, none⟩) n c).ownBlock = some b) W w5) (hx : Bk W x t cs) (ht : t' ≠ t) (h : W.ownsRow B t' size v m xs) : w5.ownsRow B t' size v m xs :=
  own_row_sm h hs (fun y e e2 => by
    have e3 : x = y := by simpa [Value.ownBlock] using e2
    exact own_not_bk h hx ht (by rw [e, e3]))
theorem some_own {A : Option Addr} {n c x : Nat} (h : (Value.slice A n c).ownBlock = some x) : ∃ a, A = some a := by
  cases A with
  | none => cases h
  | some a => exact ⟨a, rfl⟩
theorem some_own2 {A : Option Addr} {n c x y n' c' : Nat} (h : (Value.slice A n c).ownBlock = (Value.slice (some ⟨x, 0, none⟩) n' c').ownBlock ∨ (Value.slice A n c).ownBlock = some y) : ∃ a, A = some a := by
  rcases h with h | h
  · exact some_own (x := x) (h.trans (by rfl))
  · exact some_own h
theorem frow_of {w : World} {B n c : Nat} {A : Option Addr} {l : List Fld} (h : w.ownsRow B 65 2 (.slice A n c) l.length (fldCells l)) : FRow w A l := by
  rcases own_row_form h with ⟨e, h0, _⟩ | ⟨b, cap, e, _, _, hb, _, hc, _⟩
  · exact fun k hk => absurd hk (by omega)
  · injection e with e
    subst e
    exact fun k hk => by
      obtain ⟨h1, h2⟩ := fldCells_at l k hk
      exact ⟨b, 0, rfl, hb, by simpa using hc _ _ h1, by simpa using hc _ _ h2⟩
theorem take_end {w2 W : World} {b2 : Nat} {fs : List Fld} {b : Txt} {A1 A2 : Option Addr} {c1 c2 : Nat} {x0 x1 x2 x3 x4 x5 x8 x9 z0 z1 z2 z3 z4 z5 z6 z7 z8 z9 : Value}
    (q : Bk W b2 29 #[z0, z1, z2, z3, z4, z5, z6, z7, z8, z9]) (m : Sm (fun y => y = b2) w2 W) (rF : W.ownsRow 0 65 2 (.slice A1 fs.length c1) fs.length (fldCells fs)) (rB : W.ownsRow 0 5 1 (.slice A2 b.length c2) b.length (b.map byteQ)) (sF : ∃ a, A1 = some a) (sB : ∃ a, A2 = some a) :
    ∃ A1' c1' A2' c2', Bk ((((((((((W.setCell ⟨b2, 0, none⟩ x0).setCell ⟨b2, 1, none⟩ x1).setCell ⟨b2, 2, none⟩ x2).setCell ⟨b2, 3, none⟩ x3).setCell ⟨b2, 4, none⟩ x4).setCell ⟨b2, 5, none⟩ x5).setCell ⟨b2, 6, none⟩ (.slice A1 fs.length c1)).setCell ⟨b2, 7, none⟩ (.slice A2 b.length c2)).setCell ⟨b2, 8, none⟩ x8).setCell ⟨b2, 9, none⟩ x9) b2 29 #[x0, x1, x2, x3, x4, x5, .slice A1' fs.length c1', .slice A2' b.length c2', x8, x9] ∧ FRow ((((((((((W.setCell ⟨b2, 0, none⟩ x0).setCell ⟨b2, 1, none⟩ x1).setCell ⟨b2, 2, none⟩ x2).setCell ⟨b2, 3, none⟩ x3).setCell ⟨b2, 4, none⟩ x4).setCell ⟨b2, 5, none⟩ x5).setCell ⟨b2, 6, none⟩ (.slice A1 fs.length c1)).setCell ⟨b2, 7, none⟩ (.slice A2 b.length c2)).setCell ⟨b2, 8, none⟩ x8).setCell ⟨b2, 9, none⟩ x9) A1' fs ∧ RowC ((((((((((W.setCell ⟨b2, 0, none⟩ x0).setCell ⟨b2, 1, none⟩ x1).setCell ⟨b2, 2, none⟩ x2).setCell ⟨b2, 3, none⟩ x3).setCell ⟨b2, 4, none⟩ x4).setCell ⟨b2, 5, none⟩ x5).setCell ⟨b2, 6, none⟩ (.slice A1 fs.length c1)).setCell ⟨b2, 7, none⟩ (.slice A2 b.length c2)).setCell ⟨b2, 8, none⟩ x8).setCell ⟨b2, 9, none⟩ x9) A2' (b.map byteQ) ∧ (∃ a, A1' = some a) ∧ (∃ a, A2' = some a) ∧ Sm (fun y => y = b2) w2 ((((((((((W.setCell ⟨b2, 0, none⟩ x0).setCell ⟨b2, 1, none⟩ x1).setCell ⟨b2, 2, none⟩ x2).setCell ⟨b2, 3, none⟩ x3).setCell ⟨b2, 4, none⟩ x4).setCell ⟨b2, 5, none⟩ x5).setCell ⟨b2, 6, none⟩ (.slice A1 fs.length c1)).setCell ⟨b2, 7, none⟩ (.slice A2 b.length c2)).setCell ⟨b2, 8, none⟩ x8).setCell ⟨b2, 9, none⟩ x9) := by
  obtain ⟨wf, hwf⟩ : ∃ wf, ((((((((((W.setCell ⟨b2, 0, none⟩ x0).setCell ⟨b2, 1, none⟩ x1).setCell ⟨b2, 2, none⟩ x2).setCell ⟨b2, 3, none⟩ x3).setCell ⟨b2, 4, none⟩ x4).setCell ⟨b2, 5, none⟩ x5).setCell ⟨b2, 6, none⟩ (.slice A1 fs.length c1)).setCell ⟨b2, 7, none⟩ (.slice A2 b.length c2)).setCell ⟨b2, 8, none⟩ x8).setCell ⟨b2, 9, none⟩ x9) = wf := ⟨_, rfl⟩
  rw [hwf]
  have hs : Sm (fun y => y = b2) W wf := by rw [← hwf]; exact (((((((((((Sm.refl (fun y => y = b2) W).set1 0 _).set1 1 _).set1 2 _).set1 3 _).set1 4 _).set1 5 _).set1 6 _).set1 7 _).set1 8 _).set1 9 _)
  have hb : Bk wf b2 29 #[x0, x1, x2, x3, x4, x5, .slice A1 fs.length c1, .slice A2 b.length c2, x8, x9] := by
    rw [← hwf]
    exact ((((((((((q.set 0 x0).set 1 x1).set 2 x2).set 3 x3).set 4 x4).set 5 x5).set 6 (.slice A1 fs.length c1)).set 7 (.slice A2 b.length c2)).set 8 x8).set 9 x9).eq (by simp only [List.setIfInBounds_toArray, List.set_cons_succ, List.set_cons_zero])
  have rF' := own_row_sm rF hs (fun y e e2 => own_not_bk rF q (by decide) (by rw [e, e2]))
  have rB' := own_row_sm rB hs (fun y e e2 => own_not_bk rB q (by decide) (by rw [e, e2]))
  obtain ⟨A, c, hv, hR, _⟩ := own_rowC rB'
  injection hv with hv
  subst hv
  exact ⟨A1, c1, A2, c2, hb, frow_of rF', hR, sF, sB, m.trans hs (fun _ _ e => e)⟩
/-- The Request that Take gives. -/
def ReqV (w : World) (r : ReqW) (v : Value) : Prop := ∃ A1 c1 A2 c2, v = .agg #[.string ⟨r.method.toArray⟩, .int .i64 r.target.form, .string ⟨r.target.host.toArray⟩, .string ⟨r.target.path.toArray⟩, .string ⟨r.target.query.toArray⟩, .int .i64 r.minor, .slice A1 r.fields.length c1, .slice A2 r.body.length c2, .bool r.close, .bool r.expect] ∧ FRow w A1 r.fields ∧ RowC w A2 (r.body.map byteQ) ∧ (∃ a, A1 = some a) ∧ (∃ a, A2 = some a)
def TakePost (w : World) (O : Nat → Prop) (g : Nat) (r : ReqW) (e : Ending) (w' : World) : Prop := ∃ v, e = .returned (.tuple #[v, .int .i64 0]) ∧ ReqV w' r v ∧ IsPrs w' (Oup O w w') g .idle ∧ Sm O w w'
set_option maxRecDepth 100000 in
set_option maxHeartbeats 16000000 in
theorem rTake_any (w : World) (O : Nat → Prop) (g : Nat) (h : Hd) (b : Txt) (hI : IsPrs w O g (.whole h b)) (ho : PrsOk (.whole h b)) :
    Calls Tryz.prog 12 #[.pointer (some ⟨g, 0, none⟩)] w (TakePost w O g (reqW h b)) := by
  obtain ⟨⟨gh, vF, ln, vB, ch, cm, hK, hH, hB, hO⟩, og, lt⟩ := hI
  obtain ⟨AF, cF, hvF, hRF, hlF, hnF0⟩ := own_rowC hH.hd.2.1
  obtain ⟨AB, cB, hvB, hRB, hlB, hnB0⟩ := hB.slice
  have hnF : AF = none → h.fields.length = 0 ∧ cF = 0 := fun e => ⟨by have := hnF0 e; omega, hnF0 e⟩
  have hnB : AB = none → b.length = 0 ∧ cB = 0 := fun e => ⟨by have := hnB0 e; omega, hnB0 e⟩
  subst hvF hvB
  have hgl := Bk.lt hK
  have hc := Bk.all hK
  have hz := Bk.fz hK
  have hbl := ho.2
  have hfl := ho.1.ok.len
  have H := Lib.hid (And.intro hK (And.intro hH (And.intro hB (And.intro hO (And.intro og lt)))))
  have HR := Lib.hid (And.intro hRF (And.intro hRB (And.intro hnF hnB)))
  unfold ptr PrsHow at hc
  dsimp only at hc
  clear hK hH hB hO og lt hRF hRB hnF hnB hlF hlB hnF0 hnB0 ho
  go_enter Tryz.func12, Tryz.ntmps12
  go_upto_region 5 with fail
  obtain ⟨w1, hw1⟩ : ∃ w1, w.setCell ⟨g, 0, none⟩ (.int .i64 0) = w1 := ⟨_, rfl⟩
  have hs1 : Sm (fun y => y = g) w w1 := by rw [← hw1]; exact (Sm.refl _ w).set1 0 (.int .i64 0)
  have hK1 : PrsK w1 g 0 0 (ptr gh) ln (PrsHow h).1 (PrsHow h).2.1 (PrsHow h).2.2.1 (PrsHow h).2.2.2 (.slice AB b.length cB) ch cm := by rw [← hw1]; exact (Bk.set H.out.1 0 (.int .i64 0)).eq rfl
  have hz1 : w1.heap.size = w.heap.size := by rw [← hw1]; simp
  rw [hw1]
  obtain ⟨w2, hw2⟩ : ∃ w2, w1.alloc (.cells #[.string ⟨#[]⟩, .int .i64 0, .string ⟨#[]⟩, .string ⟨#[]⟩, .string ⟨#[]⟩, .int .i64 0, .slice none 0 0, .slice none 0 0, .bool false, .bool false] 29) = w2 := ⟨_, rfl⟩
  have hs2 : Sm (fun y => y = g) w w2 := by rw [← hw2]; exact hs1.alloc _
  have hK2 : PrsK w2 g 0 0 (ptr gh) ln (PrsHow h).1 (PrsHow h).2.1 (PrsHow h).2.2.1 (PrsHow h).2.2.2 (.slice AB b.length cB) ch cm := by rw [← hw2]; exact Bk.alloc hK1 _
  have hb2 : Bk w2 w.heap.size 29 #[.string ⟨#[]⟩, .int .i64 0, .string ⟨#[]⟩, .string ⟨#[]⟩, .string ⟨#[]⟩, .int .i64 0, .slice none 0 0, .slice none 0 0, .bool false, .bool false] := by rw [← hw2]; exact Bk.newAt w1 _ _ hz1.symm
  rw [hw2]
  have hH2 := H.out.2.1.own H.out.1 rfl hs2
  have hgh0 := H.out.2.1.hd.bk.lt
  have hgF : ∀ a, AF = some a → ¬ a.block = g := fun a e e2 => own_not_bk H.out.2.1.hd.2.1 H.out.1 (by decide) (by rw [e, ← e2]; rfl)
  have hgB : ∀ a, AB = some a → ¬ a.block = g := fun a e e2 => own_not_bk H.out.2.2.1 H.out.1 (by decide) (by rw [e, ← e2]; rfl)
  have hRF2 := HR.out.1.sm hs2 hgF
  have hRB2 := HR.out.2.1.sm hs2 hgB
  have x0 := hH2.hd.bk.all
  have x1 := Bk.all hK2
  have HS := Lib.hid (show ∀ W', Sm (fun y => y = w.heap.size) w2 W' → W'.cell? ⟨gh, 0, none⟩ = some (.slice AF h.fields.length cF) ∧ W'.cell? ⟨gh, 1, none⟩ = some (.string ⟨h.method.toArray⟩) ∧ W'.cell? ⟨gh, 2, none⟩ = some (.int .i64 h.target.form) ∧ W'.cell? ⟨gh, 3, none⟩ = some (.string ⟨h.target.host.toArray⟩) ∧ W'.cell? ⟨gh, 4, none⟩ = some (.string ⟨h.target.path.toArray⟩) ∧ W'.cell? ⟨gh, 5, none⟩ = some (.string ⟨h.target.query.toArray⟩) ∧ W'.cell? ⟨gh, 6, none⟩ = some (.int .i64 h.minor) ∧ W'.cell? ⟨g, 6, none⟩ = some (.bool h.how.close) ∧ W'.cell? ⟨g, 7, none⟩ = some (.bool h.how.expect) ∧ W'.cell? ⟨g, 8, none⟩ = some (.slice AB b.length cB) from fun W' hW =>
    have n1 : ¬ gh = w.heap.size := by have := hgh0; omega
    have n2 : ¬ g = w.heap.size := by omega
    ⟨hW.keep hH2.hd.bk.lt n1 (x0 0), hW.keep hH2.hd.bk.lt n1 (x0 1), hW.keep hH2.hd.bk.lt n1 (x0 2), hW.keep hH2.hd.bk.lt n1 (x0 3), hW.keep hH2.hd.bk.lt n1 (x0 4), hW.keep hH2.hd.bk.lt n1 (x0 5), hW.keep hH2.hd.bk.lt n1 (x0 6), hW.keep (Bk.lt hK2) n2 (x1 6), hW.keep (Bk.lt hK2) n2 (x1 7), hW.keep (Bk.lt hK2) n2 (x1 8)⟩)
  have H2 := Lib.hid (And.intro hs2 (And.intro hK2 (And.intro hb2 (And.intro hRF2 hRB2))))
  have hl2 := hb2.lt
  obtain ⟨y0, y1, y2, y3, y4, y5, y6, y7, y8, y9⟩ := HS.out w2 (Sm.refl _ _)
  clear hc hz hw1 hs1 hK1 hz1 hw2 hs2 hK2 hb2 hH2 hgF hgB hRF2 hRB2 x0 x1
  have hbl2 : b.length ≤ 2048 := hbl
  go_cut [3] (fun e wx => e = .int .i64 0 ∧ ∃ A1 c1 A2 c2, Bk wx w.heap.size 29 #[.string ⟨h.method.toArray⟩, .int .i64 h.target.form, .string ⟨h.target.host.toArray⟩, .string ⟨h.target.path.toArray⟩, .string ⟨h.target.query.toArray⟩, .int .i64 h.minor, .slice A1 h.fields.length c1, .slice A2 b.length c2, .bool h.how.close, .bool h.how.expect] ∧ FRow wx A1 h.fields ∧ RowC wx A2 (b.map byteQ) ∧ (∃ a, A1 = some a) ∧ (∃ a, A2 = some a) ∧ Sm (fun y => y = w.heap.size) w2 wx)
  case first =>
    go_region_held3 (fun w' => w'.cell? ⟨gh, 0, none⟩ = some (.slice AF h.fields.length cF) ∧ w'.cell? ⟨gh, 1, none⟩ = some (.string ⟨h.method.toArray⟩) ∧ w'.cell? ⟨gh, 2, none⟩ = some (.int .i64 h.target.form) ∧ w'.cell? ⟨gh, 3, none⟩ = some (.string ⟨h.target.host.toArray⟩) ∧ w'.cell? ⟨gh, 4, none⟩ = some (.string ⟨h.target.path.toArray⟩) ∧ w'.cell? ⟨gh, 5, none⟩ = some (.string ⟨h.target.query.toArray⟩) ∧ w'.cell? ⟨gh, 6, none⟩ = some (.int .i64 h.minor) ∧ w'.cell? ⟨g, 6, none⟩ = some (.bool h.how.close) ∧ w'.cell? ⟨g, 7, none⟩ = some (.bool h.how.expect) ∧ w'.cell? ⟨g, 8, none⟩ = some (.slice AB b.length cB)) (first | with_reducible exact ⟨y0, y1, y2, y3, y4, y5, y6, y7, y8, y9⟩ | (refine HS.out _ (by repeat (first | with_reducible exact Sm.refl _ _ | with_reducible assumption | with_reducible refine Sm.drew ?_ | with_reducible refine Sm.alloc ?_ _ | with_reducible refine Sm.set1 ?_ _ _))))
      (first
        | (refine step_push_opt0 (by rfl) _ _ 27 65 (by rfl) Tryz.underlying27 _ 2 32 infoFieldB rfl (by decide) (by decide) 0 _ (by rfl) (own_of_bk (by repeat (first | with_reducible exact Bk.new _ _ _ | (with_reducible refine Bk.newAt _ _ _ ?_; (simp; done)) | with_reducible refine pF _ ?_ | with_reducible refine pB _ ?_ | with_reducible assumption | with_reducible refine Bk.drew ?_ | with_reducible refine Bk.alloc ?_ _))) AF h.fields.length cF (fldCells h.fields) (by rfl) HR.out.2.2.1 (by simp [fldCells_len]) (RowC.no H2.out.2.2.2.1 (by repeat (first | with_reducible exact Sm.refl _ _ | with_reducible assumption | with_reducible refine Sm.drew ?_ | with_reducible refine Sm.alloc ?_ _))) (fldCells_one h.fields) (by omega) (Nat.zero_le _) ?_; intro AF cF wF hownF hsF hbF; have kF : Sm No w2 wF := sm_new (by repeat (first | with_reducible exact Sm.refl _ _ | with_reducible assumption | with_reducible refine Sm.drew ?_ | with_reducible refine Sm.alloc ?_ _)) hsF (by first | exact Nat.le_refl _ | exact kF.size | exact kB.size | omega | (have := kF.size; omega) | (have := kB.size; omega)); have mF : Sm (fun y => y = w.heap.size) w2 wF := kF.any _; have pF := fun (g' : Nat) (hb' : Bk _ g' 5 #[]) => bk_over hsF (by repeat (first | with_reducible exact Bk.new _ _ _ | (with_reducible refine Bk.newAt _ _ _ ?_; (simp; done)) | with_reducible refine pF _ ?_ | with_reducible refine pB _ ?_ | with_reducible assumption | with_reducible refine Bk.drew ?_ | with_reducible refine Bk.alloc ?_ _)) (by decide) hb'; have uF := fun {v : Value} {n sz : Nat} {xs : List Value} (hh : World.ownsRow _ 0 5 sz v n xs) => row_over hsF (by repeat (first | with_reducible exact Bk.new _ _ _ | (with_reducible refine Bk.newAt _ _ _ ?_; (simp; done)) | with_reducible refine pF _ ?_ | with_reducible refine pB _ ?_ | with_reducible assumption | with_reducible refine Bk.drew ?_ | with_reducible refine Bk.alloc ?_ _)) (by decide) hh; have oF := some_own2 hbF; have qF := Bk.sm H2.out.2.2.1 kF (fun e => e); have qlF := qF.lt; have qcF := qF.all; have qzF := qF.fz)
        | (refine step_push_opt0 (by rfl) _ _ 23 5 (by rfl) Tryz.underlying23 _ 1 1 infoU8 rfl (by decide) (by decide) 0 _ (by rfl) (own_of_bk (by repeat (first | with_reducible exact Bk.new _ _ _ | (with_reducible refine Bk.newAt _ _ _ ?_; (simp; done)) | with_reducible refine pF _ ?_ | with_reducible refine pB _ ?_ | with_reducible assumption | with_reducible refine Bk.drew ?_ | with_reducible refine Bk.alloc ?_ _))) AB b.length cB (b.map byteQ) (by rfl) HR.out.2.2.2 (by simp [List.length_map]) (RowC.no H2.out.2.2.2.2 (by repeat (first | with_reducible exact Sm.refl _ _ | with_reducible assumption | with_reducible refine Sm.drew ?_ | with_reducible refine Sm.alloc ?_ _))) (fun u hu => by obtain ⟨c, _, rfl⟩ := List.mem_map.1 hu; rfl) (by omega) (Nat.zero_le _) ?_; intro AB cB wB hownB hsB hbB; have kB : Sm No w2 wB := sm_new (by repeat (first | with_reducible exact Sm.refl _ _ | with_reducible assumption | with_reducible refine Sm.drew ?_ | with_reducible refine Sm.alloc ?_ _)) hsB (by first | exact Nat.le_refl _ | exact kF.size | exact kB.size | omega | (have := kF.size; omega) | (have := kB.size; omega)); have mB : Sm (fun y => y = w.heap.size) w2 wB := kB.any _; have pB := fun (g' : Nat) (hb' : Bk _ g' 65 #[]) => bk_over hsB (by repeat (first | with_reducible exact Bk.new _ _ _ | (with_reducible refine Bk.newAt _ _ _ ?_; (simp; done)) | with_reducible refine pF _ ?_ | with_reducible refine pB _ ?_ | with_reducible assumption | with_reducible refine Bk.drew ?_ | with_reducible refine Bk.alloc ?_ _)) (by decide) hb'; have uB := fun {v : Value} {n sz : Nat} {xs : List Value} (hh : World.ownsRow _ 0 65 sz v n xs) => row_over hsB (by repeat (first | with_reducible exact Bk.new _ _ _ | (with_reducible refine Bk.newAt _ _ _ ?_; (simp; done)) | with_reducible refine pF _ ?_ | with_reducible refine pB _ ?_ | with_reducible assumption | with_reducible refine Bk.drew ?_ | with_reducible refine Bk.alloc ?_ _)) (by decide) hh; have oB := some_own2 hbB; have qB := Bk.sm H2.out.2.2.1 kB (fun e => e); have qlB := qB.lt; have qcB := qB.all; have qzB := qB.fz))
    all_goals
      go_wp2_with fail
      go_meet
      refine ⟨rfl, ?_⟩
      exact take_end (by first | exact qF | exact qB) (by first | exact mF | exact mB) (by repeat (first | with_reducible exact hownF | with_reducible exact hownB | with_reducible refine uF ?_ | with_reducible refine uB ?_ | with_reducible refine World.ownsRow.alloc ?_ _)) (by repeat (first | with_reducible exact hownF | with_reducible exact hownB | with_reducible refine uF ?_ | with_reducible refine uB ?_ | with_reducible refine World.ownsRow.alloc ?_ _)) oF oB
  case rest =>
    obtain ⟨rfl, A1, c1, A2, c2, hb, hF, hB2, sF, sB, hsm⟩ := hcut
    have hc := hb.all
    have hn : g ≠ w.heap.size := by omega
    have hK := Bk.sm H2.out.2.1 hsm hn
    have hsw : Sm O w wc := by
      have e1 : Sm O w w2 := H2.out.1.mono (fun y _ e => e ▸ H.out.2.2.2.2.1)
      exact e1.trans hsm (fun y hy e => absurd hy (by omega))
    have HF := Lib.hid (And.intro hF (And.intro hB2 (And.intro sF (And.intro sB (And.intro hK hsw)))))
    clear hF hB2 sF sB hsm hK hsw
    go_wp2_with fail
    refine bodyPost_ret (v := .tuple #[.agg #[.string ⟨h.method.toArray⟩, .int .i64 h.target.form, .string ⟨h.target.host.toArray⟩, .string ⟨h.target.path.toArray⟩, .string ⟨h.target.query.toArray⟩, .int .i64 h.minor, .slice A1 h.fields.length c1, .slice A2 b.length c2, .bool h.how.close, .bool h.how.expect], .int .i64 0]) (by simp [results, Tryz.results12, go_sem, hc]) rfl ⟨_, rfl, ⟨A1, c1, A2, c2, rfl, HF.out.1, HF.out.2.1, HF.out.2.2.1, HF.out.2.2.2.1⟩, ⟨⟨_, _, _, _, _, _, _, _, _, HF.out.2.2.2.2.1⟩, Or.inl H.out.2.2.2.2.1, Oup.lt H.out.2.2.2.2.2 HF.out.2.2.2.2.2.size⟩, HF.out.2.2.2.2.2⟩
end Go.Proofs.YtiglfbimijnpcaaGreatDoor

