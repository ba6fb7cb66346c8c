/- Advance. -/
import Derived.Test.YtgmgjkafdkgalaaWhQ
namespace Go.Proofs.Ytgmgjkafdkgalaa
open Go.RowKit Go.Proofs Go.Maps

theorem infoTm : (Try.prog.info? 75).map (fun i => (i.zero, i.size, i.bytes)) = some (some (.pointer none), 1, 8) := by kernel_rfl
theorem fired_far {w : World} {Os : Nat → Prop} {r s tm now ord n nn : Nat} {mb : Nat → Nat} {sb : List Sl} {T F Tk : List Tb} {S : Hd → Bool} (h : IsW w Os r s tm mb now ord n sb T T) (hF : F.Perm (firedS S nn T)) (hTk : Tk.Perm (restS S nn T)) {y : Tb} (hy : y ∈ F) : ¬ blW Os r tm mb Tk y.b := by
  have hyf := List.mem_filter.1 (hF.mem_iff.1 hy)
  have hyT := hyf.1
  rintro (e | e | e | ⟨j, hj, e⟩ | ⟨z, hz, e⟩)
  · exact (h.so _ e).2.2.2 y hyT rfl
  · exact h.r_b hyT e
  · exact h.tm_b hyT e.symm
  · exact h.mb_b hj hyT e.symm
  · obtain ⟨x, hx, e1, e2, e3, _⟩ := rest_from (hTk.mem_iff.1 hz)
    have hxy : x = y := by
      have hn := h.nd
      unfold List.Nodup at hn
      rw [List.pairwise_map, List.pairwise_iff_getElem] at hn
      obtain ⟨i, hi, rfl⟩ := List.getElem_of_mem hx
      obtain ⟨j, hj, rfl⟩ := List.getElem_of_mem hyT
      rcases Nat.lt_trichotomy i j with g | g | g
      · exact absurd (e2.trans e.symm) (hn i j hi hj g)
      · subst g; rfl
      · exact absurd (e.trans e2.symm) (hn j i hj hi g)
    subst hxy
    have := hyf.2
    rw [this] at e3
    cases e3
theorem tk_blocks {Os : Nat → Prop} {r tm nn : Nat} {mb : Nat → Nat} {T Tk : List Tb} {S : Hd → Bool} (hTk : Tk.Perm (restS S nn T)) {b : Nat} (h : blW Os r tm mb Tk b) : blW Os r tm mb T b := by
  refine blW_mono h (fun z hz => ?_)
  obtain ⟨x, hx, _, e2, _⟩ := rest_from (hTk.mem_iff.1 hz)
  exact ⟨x, hx, e2⟩
def AdvR (w : World) (Os : Nat → Prop) (r s tm : Nat) (mb : Nat → Nat) (now ord : Nat) (sb : List Sl) (T : List Tb) (hs : List Hd) (vh : Value) (v iv : Value) (wr : World) : Prop :=
  ∃ (k : Nat) (F Tk : List Tb), k ≤ hs.length ∧ iv = .int .i64 k ∧ IsW wr Os r s tm mb now ord Tk.length (takeP sb (firedP (inHs hs k) now T)) Tk Tk ∧ Tk.Perm (restS (inHs hs k) now T) ∧ F.Perm (firedS (inHs hs k) now T) ∧
    wr.ownsRow w.heap.size 75 1 v F.length (F.map ptrT) ∧ (∀ x ∈ F, Bk wr x.b 77 (tmCells x)) ∧ Sm (blW Os r tm mb T) w wr ∧ wr.ownsRow w.heap.size 29 2 vh hs.length (hCells hs)
theorem inHs_zero (hs : List Hd) (n : Nat) (T : List Tb) : firedS (inHs hs 0) n T = [] ∧ restS (inHs hs 0) n T = T ∧ ∀ h, firedP (inHs hs 0) n T h = false := by
  have e : ∀ h, inHs hs 0 h = false := fun h => by unfold inHs; simp
  refine ⟨?_, ?_, fun h => ?_⟩
  · unfold firedS
    rw [List.filter_eq_nil_iff]
    intro x _
    simp [e]
  · unfold restS
    have e1 : T.filter (fun x => !(inHs hs 0 x.t.h && decide (x.t.a ≤ n))) = T := by
      rw [List.filter_eq_self]
      intro x _
      simp [e]
    rw [e1]
    conv => rhs; rw [← List.map_id T]
    apply List.map_congr_left
    intro x _
    rw [if_neg (by simp [e])]; rfl
  · unfold firedP
    rw [List.any_eq_false]
    intro x _
    simp [e]
theorem infoIn : (Try.prog.info? 3).map (fun i => (i.zero, i.size, i.bytes)) = some (some (.int .i64 0), 1, 8) := by kernel_rfl
def OutR (w3 : World) (B : Nat) (F' : List Tb) (v iv : Value) (wr : World) : Prop :=
  ∃ j : Nat, j ≤ F'.length ∧ iv = .int .i64 j ∧ wr.ownsRow B 3 1 v j ((F'.take j).map fun x => .int .i64 x.t.what) ∧ Sm No w3 wr
theorem out_step {F' : List Tb} {j : Nat} {x : Tb} (h : F'[j]? = some x) : ((F'.take (j + 1)).map fun x => Value.int .i64 x.t.what) = ((F'.take j).map fun x => Value.int .i64 x.t.what) ++ [.int .i64 x.t.what] := by
  have hlt : j < F'.length := by
    rcases Nat.lt_or_ge j F'.length with g | g
    · exact g
    · rw [List.getElem?_eq_none g] at h; cases h
  have e : F'[j] = x := by rw [List.getElem?_eq_getElem hlt] at h; injection h
  rw [List.take_succ_eq_append_getElem hlt, e, List.map_append]
  rfl
theorem adv_late_done {w1 wr w6 : World} {Os : Nat → Prop} {r s tm now ord m : Nat} {mb : Nat → Nat} {sb : List Sl} {T F Tk Rk : List Tb} {hs : List Hd} {k : Nat} {x : Tb} {v vh : Value} (h : IsW w1 Os r s tm mb now ord m sb T T)
    (hI : IsW w6 Os r s tm mb now ord (Rk.length + 1) (takeP sb (firedP (inHs hs k) now T)) (⟨x.t, x.b, placeL now x.t.a⟩ :: Rk) (⟨x.t, x.b, placeL now x.t.a⟩ :: Rk)) (hx : x ∈ T) (hS : inHs hs k x.t.h = false) (hstep : inHs hs (k + 1) = addS (inHs hs k) x.t.h)
    (hTk : Tk.Perm (restS (inHs hs k) now T)) (hF : F.Perm (firedS (inHs hs k) now T)) (hR : Tk.Perm (x :: Rk)) (ha : now < x.t.a) (hrow : wr.ownsRow w1.heap.size 75 1 v F.length (F.map ptrT)) (hFb : ∀ x ∈ F, Bk wr x.b 77 (tmCells x)) (hsm : Sm (blW Os r tm mb T) w1 wr)
    (hhr : wr.ownsRow w1.heap.size 29 2 vh hs.length (hCells hs)) (hs6 : Sm (blW Os r tm mb (x :: Rk)) wr w6) (hbT : ∀ b, blW Os r tm mb (x :: Rk) b → blW Os r tm mb T b) (hbF : ∀ y ∈ F, ¬ blW Os r tm mb (x :: Rk) y.b) :
    IsW w6 Os r s tm mb now ord ((⟨x.t, x.b, placeL now x.t.a⟩ : Tb) :: Rk).length (takeP sb (firedP (inHs hs (k + 1)) now T)) (⟨x.t, x.b, placeL now x.t.a⟩ :: Rk) (⟨x.t, x.b, placeL now x.t.a⟩ :: Rk) ∧ ((⟨x.t, x.b, placeL now x.t.a⟩ : Tb) :: Rk).Perm (restS (inHs hs (k + 1)) now T) ∧ F.Perm (firedS (inHs hs (k + 1)) now T) ∧
    w6.ownsRow w1.heap.size 75 1 v F.length (F.map ptrT) ∧ (∀ x ∈ F, Bk w6 x.b 77 (tmCells x)) ∧ Sm (blW Os r tm mb T) w1 w6 ∧ w6.ownsRow w1.heap.size 29 2 vh hs.length (hCells hs) := by
  obtain ⟨p1, p2⟩ := adv_late (tidy_of h) hx hS hTk hF hR ha
  rw [hstep, ← firedP_late (tidy_of h) hx ha]
  have hlow : ∀ b, blW Os r tm mb (x :: Rk) b → b < w1.heap.size := fun b hb => h.lt (hbT b hb)
  exact ⟨hI, p1, p2, own_row_sm hrow hs6 (fun b e hb => by have := row_base hrow e; have := hlow b hb; omega), fun y hy => (hFb y hy).sm hs6 (hbF y hy), hsm.trans hs6 (fun b _ hb => hbT b hb),
    own_row_sm hhr hs6 (fun b e hb => by have := row_base hhr e; have := hlow b hb; omega)⟩
theorem adv_due_done {w1 wr W5 w6 w8 : World} {Os : Nat → Prop} {r s tm now ord m m5 : Nat} {mb : Nat → Nat} {sb sb5 : List Sl} {T F Tk Rk : List Tb} {hs : List Hd} {k : Nat} {x : Tb} {v v6 vh : Value} (h : IsW w1 Os r s tm mb now ord m sb T T)
    (hI5 : IsW W5 Os r s tm mb now ord m5 sb5 (x :: Rk) Rk) (hw35 : Sm (blW Os r tm mb (x :: Rk)) wr W5) (hrow5 : W5.ownsRow w1.heap.size 75 1 v F.length (F.map ptrT)) (hsa6 : Sm (fun b => v.ownBlock = some b) W5 w6)
    (hown6 : w6.ownsRow w1.heap.size 75 1 v6 (F.length + 1) (F.map ptrT ++ [.pointer (some ⟨x.b, 0, none⟩)])) (hhr6 : w6.ownsRow w1.heap.size 29 2 vh hs.length (hCells hs)) (hs78 : Sm (fun b => b = tm ∨ Os b) w6 w8)
    (hI8 : IsW w8 Os r s tm mb now ord Rk.length (takeB (takeP sb (firedP (inHs hs k) now T)) x.t.h) Rk Rk) (hx : x ∈ T) (hS : inHs hs k x.t.h = false) (hstep : inHs hs (k + 1) = addS (inHs hs k) x.t.h)
    (hTk : Tk.Perm (restS (inHs hs k) now T)) (hF : F.Perm (firedS (inHs hs k) now T)) (hR : Tk.Perm (x :: Rk)) (ha : x.t.a ≤ now) (hFb : ∀ x ∈ F, Bk wr x.b 77 (tmCells x)) (hsm : Sm (blW Os r tm mb T) w1 wr)
    (hbT : ∀ b, blW Os r tm mb (x :: Rk) b → blW Os r tm mb T b) (hbF : ∀ y ∈ F, ¬ blW Os r tm mb (x :: Rk) y.b) :
    IsW w8 Os r s tm mb now ord Rk.length (takeP sb (firedP (inHs hs (k + 1)) now T)) Rk Rk ∧ Rk.Perm (restS (inHs hs (k + 1)) now T) ∧ (F ++ [x]).Perm (firedS (inHs hs (k + 1)) now T) ∧
    w8.ownsRow w1.heap.size 75 1 v6 (F ++ [x]).length ((F ++ [x]).map ptrT) ∧ (∀ x_1 ∈ F ++ [x], Bk w8 x_1.b 77 (tmCells x_1)) ∧ Sm (blW Os r tm mb T) w1 w8 ∧ w8.ownsRow w1.heap.size 29 2 vh hs.length (hCells hs) := by
  obtain ⟨p1, p2⟩ := adv_due (tidy_of h) hx hS hTk hF hR ha
  rw [hstep, ← firedP_add hx ha]
  have htmO : ∀ b, b = tm ∨ Os b → blW Os r tm mb (x :: Rk) b := fun b hb => hb.elim (fun e => Or.inr (Or.inr (Or.inl e))) Or.inl
  have hlow : ∀ b, blW Os r tm mb (x :: Rk) b → b < w1.heap.size := fun b hb => h.lt (hbT b hb)
  have hbrow : ∀ b, v.ownBlock = some b → w1.heap.size ≤ b := fun b e => row_base hrow5 e
  refine ⟨hI8, p1, p2, ?_, fun y hy => ?_, ?_, own_row_sm hhr6 hs78 (fun b e hb => by have := row_base hhr6 e; have := hlow b (htmO b hb); omega)⟩
  · rw [List.length_append, List.map_append]
    exact own_row_sm hown6 hs78 (fun b e hb => by have := row_base hown6 e; have := hlow b (htmO b hb); omega)
  · rcases List.mem_append.1 hy with hy | hy
    · exact (((hFb y hy).sm hw35 (hbF y hy)).sm hsa6 (row_not_bk hrow5 ((hFb y hy).sm hw35 (hbF y hy)) (by decide))).sm hs78 (fun e => hbF y hy (htmO _ e))
    · rw [List.mem_singleton] at hy
      subst hy
      have hb5 := hI5.tb y (by simp)
      exact (hb5.sm hsa6 (row_not_bk hrow5 hb5 (by decide))).sm hs78 (fun e => by
        rcases e with e | e
        · exact hI5.tm_b (x := y) (by simp) e.symm
        · exact (hI5.so _ e).2.2.2 y (by simp) rfl)
  · have t1 : Sm (fun b => blW Os r tm mb T b ∨ w1.heap.size ≤ b) w1 W5 := (hsm.mono (fun b _ hb => Or.inl hb)).trans hw35 (fun b _ hb => Or.inl (hbT b hb))
    have t2 := (t1.trans hsa6 (fun b _ e => Or.inr (hbrow b e))).trans hs78 (fun b _ hb => Or.inl (hbT b (htmO b hb)))
    exact t2.mono (fun b hb e => e.elim id (fun e => by omega))
theorem adv_done {w w1 w3 w4 : World} {O Os : Nat → Prop} {r s tm nn : Nat} {mb : Nat → Nat} {st : St} {n : Int} {T F F' Tk : List Tb} {hs : List Hd} {v : Value} (hge : st.now ≤ nn) (h1 : IsW w Os r s tm mb st.now st.ord T.length st.sb T T) (h2 : (T.map (·.t)).Perm st.L)
    (h3 : ∀ x ∈ T, x.p = placeL st.now x.t.a) (h4 : st.Ok) (h5 : ∀ b, blW Os r tm mb T b → O b) (h6 : ∀ b, O b → b < w.heap.size) (hnn : goesTo st n = nn) (hs1 : Sm (fun b => b = r) w w1) (hiff : ∀ h, h ∈ hs ↔ ∃ x ∈ T, x.t.h = h ∧ overL st.now nn x.p.1 x.p.2 = true)
    (hTk : Tk.Perm (restS (inHs hs hs.length) nn T)) (hF : F.Perm (firedS (inHs hs hs.length) nn T)) (hF' : F'.Perm F) (hso : F'.Pairwise (fun x y => leT x.t y.t = true)) (hI : IsW w3 Os r s tm mb nn st.ord Tk.length (takeP st.sb (firedP (inHs hs hs.length) nn T)) Tk Tk) (hsm : Sm (blW Os r tm mb T) w1 w3)
    (hrow : w4.ownsRow w3.heap.size 3 1 v F'.length (F'.map fun x => .int .i64 x.t.what)) (hs4 : Sm No w3 w4) :
    w4.ownsRow w.heap.size 3 1 v (advW st n).1.length ((advW st n).1.map fun x => .int .i64 x) ∧ IsWheel w4 O r (advW st n).2 ∧ Sm O w w4 := by
  obtain ⟨e1, e2, e3⟩ := adv_end hge h3 (tidy_of h1) hiff
  have hout : (advW st n).1 = F'.map fun x => x.t.what := by
    unfold advW
    simp only [hnn]
    have hd : F'.map (·.t) = dueL nn st.L := by
      refine dueL_unique h4.apart ?_ ?_
      · have p1 := (hF'.trans hF).map (·.t)
        rw [e1] at p1
        refine p1.trans ?_
        have p2 := h2.filter (fun t => decide (t.a ≤ nn))
        rw [List.filter_map] at p2
        exact p2
      · rw [List.pairwise_map]; exact hso
    rw [← hd, List.map_map]
    rfl
  have hsO : Sm O w w4 := ((hs1.mono (fun b _ e => h5 b (Or.inr (Or.inl e)))).trans hsm (fun b _ hb => h5 b hb)).trans hs4 (fun _ _ h => h.elim)
  have hst2 : (advW st n).2 = { st with now := nn, sb := takeP st.sb (firedP (inHs hs hs.length) nn T), L := restL nn st.L } := by
    unfold advW
    simp only [hnn]
    congr 1
    refine takeP_congr _ (fun k hk => ?_)
    rw [h4.inS] at hk
    rw [e3, hk, Bool.true_and, Bool.eq_iff_iff]
    simp only [List.any_eq_true, Bool.and_eq_true, decide_eq_true_eq]
    constructor
    · rintro ⟨t, ht, q1, q2⟩
      obtain ⟨x, hx, rfl⟩ := List.mem_map.1 (h2.mem_iff.2 ht)
      exact ⟨x, hx, q1, q2⟩
    · rintro ⟨x, hx, q1, q2⟩
      exact ⟨x.t, h2.mem_iff.1 (List.mem_map.2 ⟨x, hx, rfl⟩), q1, q2⟩
  refine ⟨?_, ?_, hsO⟩
  · rw [hout, List.length_map, List.map_map]
    exact own_row_base hrow (fun b e => Nat.le_trans (Nat.le_trans hs1.size hsm.size) (row_base hrow e))
  · have hok := advW_ok h4 n
    rw [hst2] at hok ⊢
    refine ⟨Os, s, tm, mb, Tk, hI.no hs4, ?_, fun x hx => ?_, hok, fun b hb => h5 b (tk_blocks hTk hb), fun b hb => Nat.lt_of_lt_of_le (h6 b hb) hsO.size⟩
    · have p1 := hTk.map (·.t)
      rw [e2, List.map_map] at p1
      refine p1.trans ?_
      have p2 := h2.filter (fun t => decide (nn < t.a))
      rw [List.filter_map] at p2
      exact p2
    · have hx2 := hTk.mem_iff.1 hx
      rw [e2] at hx2
      obtain ⟨y, _, rfl⟩ := List.mem_map.1 hx2
      rfl
set_option maxRecDepth 100000 in
set_option maxHeartbeats 16000000 in
theorem advance_any (w : World) (O : Nat → Prop) (r : Nat) (st : St) (n : Int) (hW : IsWheel w O r st) (hord : st.ord ≤ 4000) :
    Calls Try.prog 13 #[.pointer (some ⟨r, 0, none⟩), .int .i64 n] w fun e w' => ∃ v, e = .returned v ∧ w'.ownsRow w.heap.size 3 1 v (advW st n).1.length ((advW st n).1.map fun x => .int .i64 x) ∧ IsWheel w' O r (advW st n).2 ∧ Sm O w w' := by
  obtain ⟨Os, s, tm, mb, T, h1, h2, h3, h4, h5, h6⟩ := hW
  have hnow := h4.now
  have c0 := h1.bk.at 0 (v := .int .i64 st.now) rfl
  have f0 := h1.bk.fz 0
  have hTl : T.length ≤ 4000 := by have e1 := h2.length_eq; rw [List.length_map] at e1; have := h4.len; omega
  obtain ⟨nn, hnn⟩ : ∃ nn, goesTo st n = nn := ⟨_, rfl⟩
  have hge : st.now ≤ nn := by rw [← hnn]; exact goesTo_ge h4 n
  have hle : nn ≤ 1099511627776 := by rw [← hnn]; exact goesTo_le st n
  have H := Lib.hid (And.intro h1 (And.intro h2 (And.intro h3 (And.intro h4 (And.intro h5 (And.intro h6 hnn))))))
  have hX : min (max n (st.now : Int)) 1099511627776 = (nn : Int) := by unfold goesTo at hnn; omega
  have HX := Lib.hid hX
  obtain ⟨w1, hw1⟩ : ∃ w1, w.setCell ⟨r, 0, none⟩ (.int .i64 (nn : Int)) = w1 := ⟨_, rfl⟩
  obtain ⟨hI1, hs1⟩ := h1.setNow hw1
  have hmov := moved_any w1 Os r s tm st.now nn st.ord T.length mb st.sb T hI1 hge hle (by omega) (fun x hx => by rw [h3 x hx]; exact ⟨(placeL_lt _ _).1, placeL_far _ _, (placeL_lt _ _).2⟩)
  have HM := Lib.hid (And.intro hw1 (And.intro hI1 (And.intro hs1 hmov)))
  obtain ⟨R, hR⟩ : ∃ R, advW st n = R := ⟨_, rfl⟩
  rw [hR]
  have HR := Lib.hid hR
  clear h1 h2 h3 h4 h5 h6 hX hw1 hI1 hs1 hmov hnn hR
  go_enter Try.func13, Try.ntmps13
  go_wp2_with fail
  rw [HX.out, HM.out.1]
  refine HM.out.2.2.2.mono ?_
  rintro e w2 ⟨vh, rfl, hs, hown2, hnd, hiff, hs2⟩
  obtain ⟨Ah, ch, rfl, _⟩ := own_rowC hown2
  have H2 := Lib.hid (And.intro hown2 (And.intro hnd (And.intro hiff hs2)))
  have hhl : hs.length ≤ T.length := by
    have := hnd.length_le_of_subset (l₂ := T.map (·.t.h)) (fun h hh => by
      rcases (hiff h).1 hh with ⟨x, hx, e, _⟩ | e
      · exact List.mem_map.2 ⟨x, hx, e⟩
      · cases e)
    rwa [List.length_map] at this
  clear hown2 hnd hiff hs2 c0 f0
  go_wp2_with fail
  go_loopw [6, 30] (fun v iv wr => AdvR w1 Os r s tm mb nn st.ord st.sb T hs (.slice Ah hs.length ch) v iv wr) (fun _ iv _ => hs.length - (intOf iv).toNat)
  case atStart =>
    obtain ⟨z1, z2, z3⟩ := inHs_zero hs nn T
    exact ⟨0, [], T, Nat.zero_le _, rfl, by rw [takeP_none st.sb _ (fun k hk => by rw [z3] at hk; cases hk)]; exact HM.out.2.1.no H2.out.2.2.2, by rw [z2], by rw [z1], World.ownsRow_nil _ _ _ _, (fun x hx => by cases hx), H2.out.2.2.2.any _, H2.out.1⟩
  case round =>
    obtain ⟨k, F, Tk, hk, rfl, hI, hTk, hF, hrow, hFb, hsm, hhr⟩ := hrel
    obtain ⟨Af, cf, rfl, _⟩ := own_rowC hrow
    have HK := Lib.hid (And.intro hI (And.intro hTk (And.intro hF (And.intro hrow (And.intro hFb (And.intro hsm hhr))))))
    clear hI hTk hF hrow hFb hsm hhr
    by_cases hlt : k < hs.length
    · obtain ⟨hq, hh⟩ : ∃ hq, hs[k]? = some hq := ⟨_, List.getElem?_eq_getElem hlt⟩
      obtain ⟨x, hx, hxh, _⟩ : ∃ x ∈ T, x.t.h = hq ∧ overL st.now nn x.p.1 x.p.2 = true := by
        rcases (H2.out.2.2.1 hq).1 (List.mem_of_getElem? hh) with h | h
        · exact h
        · cases h
      subst hxh
      have hSf := inHs_not H2.out.2.1 hh
      have hxk : x ∈ Tk := HK.out.2.1.mem_iff.2 (rest_mem hx hSf)
      obtain ⟨Rk, hRk⟩ := pull hxk
      have hstep := inHs_step hh
      have hx' : x ∈ x :: Rk := List.mem_cons_self ..
      obtain ⟨e0, e1⟩ := hCells_at hh
      obtain ⟨A', c', hAe, hRw, _⟩ := own_rowC HK.out.2.2.2.2.2.2
      injection hAe with hAe1 _ hAe3
      subst hAe1 hAe3
      obtain ⟨bb, off, hAe, hbl, r0⟩ := hRw.at e0
      obtain ⟨_, _, hAe1, _, r1⟩ := hRw.at e1
      subst hAe
      injection hAe1 with hAe1; injection hAe1 with q1 q2; subst q1 q2
      rw [← Nat.add_assoc] at r1
      have k1 : (0 : Int) ≤ (k : Int) := by omega
      have k2 : (k : Int) < (hs.length : Int) := by omega
      have h1 := HK.out.1.perm hRk hRk
      have hs1 := (Sm.refl No wr).alloc (.cells #[.int .i64 x.t.h.slot, .int .i64 x.t.h.gen] 29)
      have hokh := h1.key hx'
      have hokp : okP x.p := by rw [H.out.2.2.1 x hx]; exact okP_place _ _
      have c3 := (h1.no hs1).bk.at 3 (v := .map (some tm)) rfl
      have hrl := (h1.no hs1).bk.lt
      have hl := laysLook (h1.no hs1).tms hokh (getV_keys h1 hx' (.pointer none))
      have hTk1 : Tk.length = Rk.length + 1 := by rw [hRk.length_eq]; rfl
      have hTk2 : Tk.length ≤ 4000 := by
        have := HK.out.2.1.length_eq
        unfold restS at this
        rw [List.length_map] at this
        have := List.length_filter_le (fun x => !(inHs hs k x.t.h && decide (x.t.a ≤ nn))) T
        omega
      have hwr : ∀ b, blW Os r tm mb (x :: Rk) b → b < wr.heap.size := fun b hb => h1.lt hb
      have hbT : ∀ b, blW Os r tm mb (x :: Rk) b → blW Os r tm mb T b := fun b hb => tk_blocks HK.out.2.1 (blW_mono hb (fun y hy => ⟨y, hRk.mem_iff.2 hy, rfl⟩))
      have hbF : ∀ y ∈ F, ¬ blW Os r tm mb (x :: Rk) y.b := fun y hy hb => fired_far HM.out.2.1 HK.out.2.2.1 HK.out.2.1 hy (blW_mono hb (fun z hz => ⟨z, hRk.mem_iff.2 hz, rfl⟩))
      have HT := Lib.hid (And.intro h1 (And.intro hs1 (And.intro hx (And.intro hSf (And.intro hRk (And.intro hstep (And.intro hwr (And.intro hbT hbF))))))))
      obtain ⟨hd, hhd⟩ : ∃ hd, x.t.h = hd := ⟨_, rfl⟩
      rw [hhd] at hl r0 r1 hokh c3 hrl
      clear h1 hs1 hRw e0 e1 hh hwr hbT hbF hx hRk hstep hSf hxk
      go_wp2_with fail
      go_quiet (fail)
      obtain ⟨W, hW⟩ : ∃ W, (wr.alloc (.cells #[.int .i64 hd.slot, .int .i64 hd.gen] 29)).drewN nq = W := ⟨_, rfl⟩
      have hsW : Sm No wr W := by rw [← hW]; exact ((Sm.refl No wr).alloc _).drewN nq
      have hbx : Bk W wr.heap.size 29 #[.int .i64 hd.slot, .int .i64 hd.gen] := by rw [← hW]; exact (Bk.new wr _ _).drewN nq
      rw [hW]
      obtain ⟨hx, hhx⟩ : ∃ hx, wr.heap.size = hx := ⟨_, rfl⟩
      rw [hhx] at hbx ⊢
      have q0 := hbx.at 0 (v := .int .i64 hd.slot) rfl
      have q1 := hbx.at 1 (v := .int .i64 hd.gen) rfl
      have hlif := lifts_any W Os r s tm nn st.ord Tk.length mb (takeP st.sb (firedP (inHs hs k) nn T)) x Rk (HT.out.1.no hsW) hokp
      rw [hhd] at hlif
      unfold hv at hlif
      have HW := Lib.hid (And.intro hsW (And.intro hbx hhx))
      clear hW hsW hbx hhx hl c3 r0 r1
      go_wp2_with fail
      refine hlif.mono ?_
      rintro e w3 ⟨rfl, hI3, hs3⟩
      have hbx3 := HW.out.2.1.sm hs3 (fun hb => by
        have h1 := HT.out.2.2.2.2.2.2.1 hx hb
        have := HW.out.2.2; omega)
      have a0 := (hI3.tb x hx').at 0 (v := .int .i64 x.t.a) rfl
      have n0 := hI3.bk.at 0 (v := .int .i64 nn) rfl
      have q0 := hbx3.at 0 (v := .int .i64 hd.slot) rfl
      have q1 := hbx3.at 1 (v := .int .i64 hd.gen) rfl
      have hxl3 := hbx3.lt
      have hrl3 := hI3.bk.lt
      have hbl3 := (hI3.tb x hx').lt
      have H3 := Lib.hid (And.intro hI3 (And.intro hs3 hbx3))
      clear hlif hI3 hs3 hbx3
      by_cases hdue : x.t.a ≤ nn
      · have hd1 : decide ((nn : Int) < (x.t.a : Int)) = false := by simp; omega
        have hd2 : decide (nn < x.t.a) = false := by simp; omega
        go_wp2_with fail
        go_quiet (fail)
        obtain ⟨W5, hW5⟩ : ∃ W5, w3.drewN nq = W5 := ⟨_, rfl⟩
        have hs5 : Sm No w3 W5 := by rw [← hW5]; exact (Sm.refl No w3).drewN nq
        rw [hW5]
        clear hW5 a0 n0 q0 q1 hxl3 hrl3 hbl3
        have hw35 : Sm (blW Os r tm mb (x :: Rk)) wr W5 := ((HW.out.1.any _).trans H3.out.2.1 (fun b _ h => h)).trans hs5 (fun _ _ h => h.elim)
        have hI5 := H3.out.1.no hs5
        have hx5 := H3.out.2.2.sm hs5 (fun h => h)
        have hlow : ∀ b, blW Os r tm mb (x :: Rk) b → b < w1.heap.size := fun b hb => HM.out.2.1.lt (HT.out.2.2.2.2.2.2.2.1 b hb)
        have hrow5 := own_row_sm HK.out.2.2.2.1 hw35 (fun b e hb => by have := row_base HK.out.2.2.2.1 e; have := hlow b hb; omega)
        have hhr5 := own_row_sm HK.out.2.2.2.2.2.2 hw35 (fun b e hb => by have := row_base HK.out.2.2.2.2.2.2 e; have := hlow b hb; omega)
        have ha5 := (Sm.refl No W5).alloc (.cells #[.pointer (some ⟨x.b, 0, none⟩)] 75)
        have hrow6 := own_row_sm hrow5 ha5 (fun _ _ h => h)
        have hFl : F.length ≤ 1000000 := by
          have := HK.out.2.2.1.length_eq
          have := List.length_filter_le (fun x => inHs hs k x.t.h && decide (x.t.a ≤ nn)) T
          unfold firedS at *
          omega
        have hB5 : w1.heap.size ≤ (W5.alloc (.cells #[.pointer (some ⟨x.b, 0, none⟩)] 75)).heap.size := by
          have h1 := HK.out.2.2.2.2.2.1.size
          have h2 := hw35.size
          have h3 := ha5.size
          omega
        have H5 := Lib.hid (And.intro hw35 (And.intro hI5 (And.intro hx5 (And.intro hlow (And.intro hrow5 (And.intro hhr5 (And.intro ha5 (And.intro hrow6 (And.intro hFl hB5)))))))))
        clear hs5 hw35 hI5 hx5 hlow hrow5 hhr5 ha5 hrow6 hFl hB5
        go_wp2_with (first | (refine wpList_push rfl (.tmp 55) (.tmp 57) 79 75 rfl Try.underlying79 _ 1 8 infoTm rfl (by decide) (by decide) w1.heap.size F.length _ (F.map ptrT) rfl H5.out.2.2.2.2.2.2.2.1 W5.heap.size #[.pointer (some ⟨x.b, 0, none⟩)] rfl (Bk.new W5 _ _) rfl (by simp [Value.oneCell']) H5.out.2.2.2.2.2.2.2.2.1 H5.out.2.2.2.2.2.2.2.2.2 ?_; intro v6 w6 hown6 hs6 hv6; obtain ⟨g6, cap6, rfl, hg6, hc6⟩ := own_row_pos hown6; clear hc6) | fail)
        have hbg : ∀ b, blW Os r tm mb (x :: Rk) b → ¬ (Value.slice Af F.length cf).ownBlock = some b := fun b hb e => by
          have := row_base H5.out.2.2.2.2.1 e; have := H5.out.2.2.2.1 b hb; omega
        have hsa6 : Sm (fun b => (Value.slice Af F.length cf).ownBlock = some b) W5 w6 := (H5.out.2.2.2.2.2.2.1.any _).trans hs6 (fun _ _ h => h)
        have hI6 := H5.out.2.1.sm hsa6 hbg
        have hx6 := H5.out.2.2.1.sm hsa6 (row_not_bk H5.out.2.2.2.2.1 H5.out.2.2.1 (by decide))
        have hhr6 := own_row_sm H5.out.2.2.2.2.2.1 hsa6 (fun b e e2 => row_not_row H5.out.2.2.2.2.1 H5.out.2.2.2.2.2.1 (by decide) e2 e)
        obtain ⟨w7, hrun, hm7, hs7⟩ := timersDrop (hI6.tms.sm ((Sm.refl No w6).drew) (fun h => h)) hokh
        have hI7 := (hI6.no ((Sm.refl No w6).drew)).dropTb (hhd ▸ hm7) hs7
        have c3 := hI6.bk.at 3 (v := .map (some tm)) rfl
        have q0 := hx6.at 0 (v := .int .i64 hd.slot) rfl
        have q1 := hx6.at 1 (v := .int .i64 hd.gen) rfl
        have hx7 := hx6.drew.sm hs7 (fun e : hx = tm => hI6.tms.not_bk hx6 e.symm)
        have d3 := hI7.bk.at 3 (v := .map (some tm)) rfl
        have d2 := hI7.bk.at 2 (v := .pointer (some ⟨s, 0, none⟩)) rfl
        have u0 := hx7.at 0 (v := .int .i64 hd.slot) rfl
        have u1 := hx7.at 1 (v := .int .i64 hd.gen) rfl
        have hrl6 := hI6.bk.lt
        have hrl7 := hI7.bk.lt
        have hxl7 := hx7.lt
        have hs67 : Sm (fun b => b = tm) w6 w7 := ((Sm.refl No w6).drew.any _).trans hs7 (fun b _ e => e)
        have H7 := Lib.hid (And.intro hI7 (And.intro hs67 (And.intro hx7 (And.intro hsa6 (And.intro hhr6 hown6)))))
        clear hbg hsa6 hI6 hx6 hhr6 hm7 hs7 hI7 hx7 hs67 hown6 hs6 hv6
        go_wp2_with fail
        go_region_held3 (fun w' => w'.cell? ⟨r, 3, none⟩ = some (.map (some tm)) ∧ w'.cell? ⟨hx, 0, none⟩ = some (.int .i64 hd.slot) ∧ w'.cell? ⟨hx, 1, none⟩ = some (.int .i64 hd.gen)) (first | exact ⟨c3, q0, q1⟩ | exact ⟨d3, u0, u1⟩) (fail)
        clear c3 q0 q1 hrun
        have HA := Lib.hid (And.intro (((Sm.refl No w7).alloc (.cells #[.int .i64 hd.slot, .int .i64 hd.gen] 29)).drew) (rowC_of_bk (Bk.new w7 29 #[.int .i64 hd.slot, .int .i64 hd.gen]).drew))
        have hxO : ¬ Os hx := fun e => by
          have h1 := HT.out.2.2.2.2.2.2.1 hx (Or.inl e)
          have := HW.out.2.2; omega
        have hP := fun (w5 : World) (h5 : Sm Os ((w7.alloc (.cells #[.int .i64 hd.slot, .int .i64 hd.gen] 29)).drew) w5) => And.intro ((H7.out.1.no HA.out.1).bk.sm h5 (fun e => (H7.out.1.so _ e).1 rfl) |>.at 2 (v := .pointer (some ⟨s, 0, none⟩)) rfl) (And.intro (((H7.out.2.2.1.alloc (.cells #[.int .i64 hd.slot, .int .i64 hd.gen] 29)).drew).sm h5 hxO |>.at 0 (v := .int .i64 hd.slot) rfl) (((H7.out.2.2.1.alloc (.cells #[.int .i64 hd.slot, .int .i64 hd.gen] 29)).drew).sm h5 hxO |>.at 1 (v := .int .i64 hd.gen) rfl))
        have HP := Lib.hid hP
        have hisB : isB (takeP st.sb (firedP (inHs hs k) nn T)) hd = true := by
          rw [isB_takeP, H.out.2.2.2.1.inS, ← hhd, (hasT_tb H.out.2.1 _).2 ⟨x, HT.out.2.2.1, rfl⟩]
          simp only [Bool.true_and, Bool.not_eq_true', firedP, List.any_eq_false]
          intro y _ hc
          simp [HT.out.2.2.2.1] at hc
        have HTk := Lib.hid (And.intro hTk1 (And.intro hisB (show Rk.length + 1 ≤ 4096 by omega)))
        clear hP hisB hxO
        go_wp2_with fail
        go_region_held3 (fun w' => w'.cell? ⟨r, 2, none⟩ = some (.pointer (some ⟨s, 0, none⟩)) ∧ w'.cell? ⟨hx, 0, none⟩ = some (.int .i64 hd.slot) ∧ w'.cell? ⟨hx, 1, none⟩ = some (.int .i64 hd.gen)) (first | exact ⟨d2, u0, u1⟩ | exact ⟨t2, v0, v1⟩ | go_keep)
          ((go_at_call 35; (with_reducible refine (take_yes _ Os s Rk.length (takeP st.sb (firedP (inHs hs k) nn T)) hd (HTk.out.1 ▸ H7.out.1.slab.no HA.out.1) _ 0 1 HA.out.2 HTk.out.2.1 HTk.out.2.2).mono ?_); rintro e w8 ⟨rfl, hS8, hs8⟩; have H8 := Lib.hid (And.intro hS8 hs8); obtain ⟨t2, v0, v1⟩ := HP.out w8 hs8; clear hS8 hs8))
        go_wp2_with fail
        refine ⟨⟨k + 1, F ++ [x], Rk, by omega, by go_num, ?_⟩, by simp [intOf]; omega⟩
        exact adv_due_done HM.out.2.1 H5.out.2.1 H5.out.1 H5.out.2.2.2.2.1 H7.out.2.2.2.1 H7.out.2.2.2.2.2 H7.out.2.2.2.2.1 (((H7.out.2.1.mono (fun b _ e => Or.inl e)).trans HA.out.1 (fun _ _ h => h.elim)).trans H8.out.2 (fun b _ e => Or.inr e))
          (by rw [hhd]; exact (H7.out.1.no HA.out.1).setSlab H8.out.1 H8.out.2 (fun b h => Or.inl h)) HT.out.2.2.1 HT.out.2.2.2.1 HT.out.2.2.2.2.2.1 HK.out.2.1 HK.out.2.2.1 HT.out.2.2.2.2.1 hdue HK.out.2.2.2.2.1 HK.out.2.2.2.2.2.1 HT.out.2.2.2.2.2.2.2.1 HT.out.2.2.2.2.2.2.2.2
      · have hd1 : decide ((nn : Int) < (x.t.a : Int)) = true := by simp; omega
        have hd2 : decide (nn < x.t.a) = true := by simp; omega
        go_wp2_with fail
        go_quiet (fail)
        obtain ⟨W5, hW5⟩ : ∃ W5, w3.drewN nq = W5 := ⟨_, rfl⟩
        have hs5 : Sm No w3 W5 := by rw [← hW5]; exact (Sm.refl No w3).drewN nq
        rw [hW5]
        clear hW5 a0 n0 q0 q1 hxl3 hrl3 hbl3
        have hx5 := H3.out.2.2.sm hs5 (fun h => h)
        have hI5 := H3.out.1.no hs5
        have hw35 : Sm (blW Os r tm mb (x :: Rk)) wr W5 := ((HW.out.1.any _).trans H3.out.2.1 (fun b _ h => h)).trans hs5 (fun _ _ h => h.elim)
        have q0 := hx5.at 0 (v := .int .i64 hd.slot) rfl
        have q1 := hx5.at 1 (v := .int .i64 hd.gen) rfl
        have hxl5 := hx5.lt
        have hlay := lays_any W5 Os r s tm nn st.ord Tk.length mb (takeP st.sb (firedP (inHs hs k) nn T)) x Rk hI5 hle (H.out.2.2.2.1.ats x.t (H.out.2.1.mem_iff.1 (List.mem_map.2 ⟨x, HT.out.2.2.1, rfl⟩))) (by omega)
        rw [hhd] at hlay
        unfold hv at hlay
        have H5 := Lib.hid hw35
        clear hs5 hx5 hI5 hw35
        go_wp2_with fail
        refine hlay.mono ?_
        rintro e w6 ⟨rfl, hI6, hs6⟩
        have H6 := Lib.hid (And.intro hI6 hs6)
        clear hI6 hs6 hlay q0 q1 hxl5
        go_wp2_with fail
        refine ⟨⟨k + 1, F, ⟨x.t, x.b, placeL nn x.t.a⟩ :: Rk, by omega, by go_num, ?_⟩, by simp [intOf]; omega⟩
        exact adv_late_done HM.out.2.1 (by rw [hTk1] at H6; exact H6.out.1) HT.out.2.2.1 HT.out.2.2.2.1 HT.out.2.2.2.2.2.1 HK.out.2.1 HK.out.2.2.1 HT.out.2.2.2.2.1 (by omega) HK.out.2.2.2.1 HK.out.2.2.2.2.1 HK.out.2.2.2.2.2.1 HK.out.2.2.2.2.2.2 (H5.out.trans H6.out.2 (fun b _ h => h)) HT.out.2.2.2.2.2.2.2.1 HT.out.2.2.2.2.2.2.2.2
    · obtain rfl : k = hs.length := by omega
      go_wp2_with fail
      have hFl2 : F.length ≤ 1000000 := by
        have := HK.out.2.2.1.length_eq
        have := List.length_filter_le (fun x => inHs hs hs.length x.t.h && decide (x.t.a ≤ nn)) T
        unfold firedS at *
        omega
      have hsort := sort_any wr w1.heap.size _ F HK.out.2.2.2.1 HK.out.2.2.2.2.1 hFl2
      refine hsort.mono ?_
      rintro e w3 ⟨rfl, F', hp', hso', hrow', hs3⟩
      obtain ⟨n', hn'⟩ : ∃ n', F.length = n' := ⟨_, rfl⟩
      have hlen' : F'.length = n' := by rw [hp'.length_eq, hn']
      have hFb' : ∀ x ∈ F', Bk w3 x.b 77 (tmCells x) := fun x hx => by
        have h1 := HK.out.2.2.2.2.1 x (hp'.mem_iff.1 hx)
        exact h1.sm hs3 (row_not_bk HK.out.2.2.2.1 h1 (by decide))
      have hI3 : IsW w3 Os r s tm mb nn st.ord Tk.length (takeP st.sb (firedP (inHs hs hs.length) nn T)) Tk Tk := HK.out.1.sm hs3 (fun b hb e => by
        have := row_base HK.out.2.2.2.1 e
        have := HM.out.2.1.lt (tk_blocks HK.out.2.1 hb); omega)
      have hsm3 : Sm (blW Os r tm mb T) w1 w3 := ((HK.out.2.2.2.2.2.1.mono (fun b _ h => Or.inl h) : Sm (fun b => blW Os r tm mb T b ∨ w1.heap.size ≤ b) w1 wr).trans hs3 (fun b _ e => Or.inr (row_base HK.out.2.2.2.1 e))).mono (fun b hb e => e.elim id (fun e => by omega))
      rw [hn'] at hrow' ⊢
      have H3 := Lib.hid (And.intro hp' (And.intro hso' (And.intro hrow' (And.intro hFb' (And.intro hI3 (And.intro hsm3 (And.intro hlen' (And.intro hn' (show n' ≤ 1000000 by omega)))))))))
      clear hsort hp' hso' hrow' hFb' hI3 hsm3 hs3 hlen' hn' hFl2
      go_wp2_with fail
      go_loopw [10, 76] (fun v iv wr => OutR w3 w3.heap.size F' v iv wr) (fun _ iv _ => n' - (intOf iv).toNat)
      case atStart => exact ⟨0, by omega, rfl, by simpa using World.ownsRow_nil _ _ _ _, Sm.refl _ _⟩
      case round =>
        obtain ⟨j, hj, rfl, hrow, hs⟩ := hrel
        obtain ⟨Ao, co, rfl, _⟩ := own_rowC hrow
        have hjn : j ≤ n' := by have := H3.out.2.2.2.2.2.2.1; omega
        have HO := Lib.hid (And.intro hrow hs)
        clear hrow hs
        by_cases hlj : j < n'
        · have hjF : j < F'.length := by have := H3.out.2.2.2.2.2.2.1; omega
          obtain ⟨x, hx⟩ : ∃ x, F'[j]? = some x := ⟨_, List.getElem?_eq_getElem hjF⟩
          have hxm := List.mem_of_getElem? hx
          have hpt : (F'.map ptrT)[j]? = some (.pointer (some ⟨x.b, 0, none⟩)) := by rw [List.getElem?_map, hx]; rfl
          obtain ⟨A', c', hAe, hRw, _⟩ := own_rowC (own_row_sm H3.out.2.2.1 HO.out.2 (fun _ _ h => h))
          injection hAe with hAe1 _ hAe3
          subst hAe1 hAe3
          obtain ⟨bb, off, hAe, hbl, r0⟩ := hRw.at hpt
          subst hAe
          have hbx := (H3.out.2.2.2.1 x hxm).sm HO.out.2 (fun h => h)
          have w0 := hbx.at 1 (v := .int .i64 x.t.what) rfl
          have hbxl := hbx.lt
          have j1 : (0 : Int) ≤ (j : Int) := by omega
          have j2 : (j : Int) < (n' : Int) := by omega
          have ha := (Sm.refl No wr).alloc (.cells #[.int .i64 x.t.what] 3)
          have hB : w3.heap.size ≤ (wr.alloc (.cells #[.int .i64 x.t.what] 3)).heap.size := Nat.le_trans HO.out.2.size ha.size
          have hj6 : j ≤ 1000000 := by have := H3.out.2.2.2.2.2.2.2.2; omega
          have HA := Lib.hid (And.intro (own_row_sm HO.out.1 ha (fun _ _ h => h)) (And.intro hB (And.intro hx ha)))
          clear hx hxm hpt hRw hbx ha hB
          go_wp2_with (first | (at_builtin; refine wpList_push rfl (.tmp 80) (.tmp 85) 22 3 rfl Try.underlying22 _ 1 8 infoIn rfl (by decide) (by decide) w3.heap.size j _ ((F'.take j).map fun x : Tb => Value.int .i64 x.t.what) rfl HA.out.1 wr.heap.size #[.int .i64 x.t.what] rfl (Bk.new wr _ _) rfl (by simp [Value.oneCell']) hj6 HA.out.2.1 ?_; intro v6 w6 hown6 hs6 hv6) | fail)
          refine ⟨⟨j + 1, by omega, by go_num, ?_, ?_⟩, by simp [intOf]; omega⟩
          · rw [out_step HA.out.2.2.1]; exact hown6
          · exact (((HO.out.2.trans HA.out.2.2.2 (fun _ _ h => h)).any _).trans hs6 (fun b _ e => e)).mono (fun b hb e => by
              have := row_base HO.out.1 e
              omega)
        · have hjF : j = F'.length := by have := H3.out.2.2.2.2.2.2.1; omega
          obtain rfl : j = n' := by omega
          go_wp2_with fail
          go_ret
          refine ⟨_, rfl, ?_⟩
          have hO := HO.out.1
          rw [List.take_of_length_le (by omega)] at hO
          rw [← HR.out]
          show World.ownsRow _ _ _ _ (.slice Ao j co) _ _ ∧ _
          obtain ⟨v4, hv4⟩ : ∃ v4, Value.slice Ao j co = v4 := ⟨_, rfl⟩
          rw [hv4] at hO ⊢
          rw [hjF] at hO
          exact adv_done hge H.out.1 H.out.2.1 H.out.2.2.1 H.out.2.2.2.1 H.out.2.2.2.2.1 H.out.2.2.2.2.2.1 H.out.2.2.2.2.2.2 HM.out.2.2.1 (fun h => by rw [H2.out.2.2.1]; simp) HK.out.2.1 HK.out.2.2.1 H3.out.1 H3.out.2.1 H3.out.2.2.2.2.1 H3.out.2.2.2.2.2.1 hO HO.out.2
end Go.Proofs.Ytgmgjkafdkgalaa
