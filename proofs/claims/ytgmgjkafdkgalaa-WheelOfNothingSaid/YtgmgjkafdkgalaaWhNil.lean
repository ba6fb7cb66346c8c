/- A nil Wheel: each call. -/
import Derived.Test.YtgmgjkafdkgalaaWhU
import Derived.ChangeSame
namespace Go.Proofs.Ytgmgjkafdkgalaa
open Go.RowKit Go.Proofs Go.Maps

theorem nadd6 (a b : Int) (w : World) : Calls Try.prog 12 #[.pointer none, .int .i64 a, .int .i64 b] w fun e w' => e = .returned (.tuple #[.agg #[.int .i64 0, .int .i64 0], .int .i64 1]) ∧ Sm No w w' := by
  go_enter Try.func12, Try.ntmps12
  go_wp2_with fail
  refine bodyPost_ret (v := .tuple #[.agg #[.int .i64 0, .int .i64 0], .int .i64 1]) (by simp [results, Try.results12, go_sem]) rfl ⟨rfl, (Sm.refl _ _).alloc _⟩
theorem nwhere6 (s g : Int) (w : World) : Calls Try.prog 16 #[.pointer none, .agg #[.int .i64 s, .int .i64 g]] w fun e w' => e = .returned (.tuple #[.int .i64 0, .int .i64 0, .int .i64 10]) ∧ Sm No w w' := by
  go_enter Try.func16, Try.ntmps16
  go_wp2_with fail
  go_quiet (fail)
  go_wp2_with fail
  go_ret3
  exact ⟨rfl, ((Sm.refl _ _).alloc _).drewN _⟩
theorem nnext6 (w : World) : Calls Try.prog 17 #[.pointer none] w fun e w' => e = .returned (.tuple #[.int .i64 0, .bool false]) ∧ Sm No w w' := by
  go_enter Try.func17, Try.ntmps17
  go_wp2_with fail
  go_ret2
  exact ⟨rfl, by first | exact Sm.refl _ _ | exact (Sm.refl _ _).alloc _⟩
theorem nreset6 (s g b : Int) (w : World) : Calls Try.prog 18 #[.pointer none, .agg #[.int .i64 s, .int .i64 g], .int .i64 b] w fun e w' => e = .returned (.int .i64 1) ∧ Sm No w w' := by
  go_enter Try.func18, Try.ntmps18
  go_wp2_with fail
  go_ret
  exact ⟨rfl, by first | exact Sm.refl _ _ | exact (Sm.refl _ _).alloc _⟩
theorem ncancel6 (s : Value) (w : World) : Calls Try.prog 19 #[.pointer none, s] w fun e w' => e = .returned (.int .i64 0) ∧ Sm No w w' := by
  go_enter Try.func19, Try.ntmps19
  go_wp2_with fail
  go_ret
  exact ⟨rfl, Sm.refl _ _⟩
theorem nadv6 (n : Int) (w : World) : Calls Try.prog 13 #[.pointer none, .int .i64 n] w fun e w' => e = .returned (.slice none 0 0) ∧ Sm No w w' := by
  go_enter Try.func13, Try.ntmps13
  go_wp2_with fail
  go_ret
  exact ⟨rfl, Sm.refl _ _⟩
theorem nlen6 (w : World) : Calls Try.prog 15 #[.pointer none] w fun e w' => e = .returned (.int .i64 0) ∧ Sm No w w' := by
  go_enter Try.func15, Try.ntmps15
  go_wp2_with fail
  go_ret
  exact ⟨rfl, Sm.refl _ _⟩
theorem nnow6 (w : World) : Calls Try.prog 27 #[.pointer none] w fun e w' => e = .returned (.int .i64 0) ∧ Sm No w w' := by
  go_enter Try.func27, Try.ntmps27
  go_wp2_with fail
  go_ret
  exact ⟨rfl, Sm.refl _ _⟩
set_option maxRecDepth 100000 in
set_option maxHeartbeats 4000000 in
theorem nothing6_any (s g a : Int) (_ : (Lit.int .i64 s).wf = true) (_ : (Lit.int .i64 g).wf = true) (_ : (Lit.int .i64 a).wf = true) (w : World) : Calls Try.prog 9 #[.agg #[.int .i64 s, .int .i64 g], .int .i64 a] w fun e w' => e = .returned (.bool true) ∧ Sm No w w' := by
  go_enter Try.func9, Try.ntmps9
  go_wp2_with fail
  refine (nadd6 _ _ _).mono ?_
  rintro e w1 ⟨rfl, hs1⟩
  have hw1 := ((Sm.refl No w).alloc (.cells #[.int .i64 s, .int .i64 g] 29)).trans hs1 (fun _ _ h => h)
  have hbk := (Bk.new w 29 #[.int .i64 s, .int .i64 g]).sm hs1 (fun h => h)
  have q0 := hbk.at 0 (v := .int .i64 s) rfl
  have q1 := hbk.at 1 (v := .int .i64 g) rfl
  have hxl := hbk.lt
  have H1 := Lib.hid (And.intro hw1 hbk)
  clear hs1 hw1 hbk
  go_wp2_with fail
  refine (nwhere6 _ _ _).mono ?_
  rintro e w2 ⟨rfl, hs2⟩
  have hw2 := (H1.out.1.alloc (.cells #[.int .i64 0, .int .i64 0] 29)).trans hs2 (fun _ _ h => h)
  have hb1 := (H1.out.2.alloc (.cells #[.int .i64 0, .int .i64 0] 29)).sm hs2 (fun h => h)
  have hb2 := (Bk.new w1 29 #[.int .i64 0, .int .i64 0]).sm hs2 (fun h => h)
  have H2 := Lib.hid (And.intro hw2 (And.intro hb1 hb2))
  clear hs2 hw2 hb1 hb2 q0 q1 hxl
  go_wp2_with fail
  refine (nnext6 _).mono ?_
  rintro e w3 ⟨rfl, hs3⟩
  have hb1 := H2.out.2.1.sm hs3 (fun h => h)
  have hb2 := H2.out.2.2.sm hs3 (fun h => h)
  have q0 := hb1.at 0 (v := .int .i64 s) rfl
  have q1 := hb1.at 1 (v := .int .i64 g) rfl
  have q2 := hb2.at 0 (v := .int .i64 0) rfl
  have q3 := hb2.at 1 (v := .int .i64 0) rfl
  have hxl1 := hb1.lt
  have hxl2 := hb2.lt
  have H3 := Lib.hid (And.intro (H2.out.1.trans hs3 (fun _ _ h => h)) (And.intro hb1 hb2))
  clear hs3 hb1 hb2
  go_wp2_with fail
  refine (nreset6 _ _ _ _).mono ?_
  rintro e w4 ⟨rfl, hs4⟩
  have hb1 := H3.out.2.1.sm hs4 (fun h => h)
  have q0' := hb1.at 0 (v := .int .i64 s) rfl
  have q1' := hb1.at 1 (v := .int .i64 g) rfl
  have hxl1' := hb1.lt
  have H4 := Lib.hid (H3.out.1.trans hs4 (fun _ _ h => h))
  clear hs4 hb1 q0 q1 q2 q3 hxl1 hxl2
  go_wp2_with fail
  refine (ncancel6 _ _).mono ?_
  rintro e w5 ⟨rfl, hs5⟩
  clear q0' q1' hxl1'
  have H5 := Lib.hid ((H4.out.alloc _).trans hs5 (fun _ _ h => h))
  clear hs5
  go_wp2_with fail
  refine (nadv6 _ _).mono ?_
  rintro e w6 ⟨rfl, hs6⟩
  have H6 := Lib.hid (H5.out.trans hs6 (fun _ _ h => h))
  clear hs6
  go_wp2_with fail
  refine (nlen6 _).mono ?_
  rintro e w7 ⟨rfl, hs7⟩
  have H7 := Lib.hid (H6.out.trans hs7 (fun _ _ h => h))
  clear hs7
  go_wp2_with fail
  refine (nnow6 _).mono ?_
  rintro e w8 ⟨rfl, hs8⟩
  have H8 := Lib.hid (H7.out.trans hs8 (fun _ _ h => h))
  clear hs8
  go_wp2_with fail
  refine (known6_any _).mono ?_
  rintro e w9 ⟨rfl, hs9⟩
  have H9 := Lib.hid (H8.out.trans hs9 (fun _ _ h => h))
  clear hs9
  go_wp2_with fail
  go_ret
  exact ⟨rfl, H9.out⟩
section
open Go.ChangeShapes Go.WideShapes
variable {H : Type} {enc : TypeId × Value → H} {P : Program} {W : World} {base : Nat} {sp : Nat → Bool} {held : Bool}
/-- An argument that is a struct of two numbers. -/
theorem open_two {t : TypeId} {f0 f1 : Field} {k : IntKind} (ht : P.underlying t = some (.struct #[f0, f1])) (hc : P.cellsOf t = 2) (u0 : P.underlying f0.type = some (.int k)) (u1 : P.underlying f1.type = some (.int k)) (o0 : f0.offset = 0) (o1 : f1.offset = 1) (c0 : P.cellsOf f0.type = 1) (c1 : P.cellsOf f1.type = 1)
    {r : Reach} {b0 : Nat} {v : Value} {d : DataW H} {ps : List MemPlace} (hval : Value.okWide P W r b0 t v) (hd : DataW.Trod enc P W base sp held t v d ps) :
    ∃ a b : Int, v = .agg #[.int k a, .int k b] ∧ d = .agg [.lit (.int k a), .lit (.int k b)] ∧ ps = [] ∧ (Lit.int k a).wf = true ∧ (Lit.int k b).wf = true := by
  obtain ⟨cs, rfl, hs⟩ := okWide_struct ht hval
  rw [hc] at hs
  obtain ⟨fuel, hf⟩ := hd
  obtain ⟨y0, y1, n, e, hl, h0, h1⟩ := trod_struct2 ht hf
  obtain ⟨l⟩ := cs
  match l, hs with
  | [x0, x1], _ =>
    rw [o0, c0] at h0
    rw [o1, c1] at h1
    obtain ⟨a, ea, rfl, wa⟩ := DataW.trod_int u0 h0
    obtain ⟨b, eb, rfl, wb⟩ := DataW.trod_int u1 h1
    simp [Value.cells] at ea eb
    subst ea; subst eb
    simp only [Prod.mk.injEq] at e
    exact ⟨a, b, rfl, e.1, e.2, wa, wb⟩
theorem shut_two {t : TypeId} {f0 f1 : Field} {k : IntKind} (ht : P.underlying t = some (.struct #[f0, f1])) (hc : P.cellsOf t = 2) (u0 : P.underlying f0.type = some (.int k)) (u1 : P.underlying f1.type = some (.int k)) (o0 : f0.offset = 0) (o1 : f1.offset = 1) (c0 : P.cellsOf f0.type = 1) (c1 : P.cellsOf f1.type = 1)
    {a b : Int} (wa : (Lit.int k a).wf = true) (wb : (Lit.int k b).wf = true) : DataW.Trod enc P W base sp held t (.agg #[.int k a, .int k b]) (.agg [.lit (.int k a), .lit (.int k b)]) [] :=
  ⟨2, trod_struct2_mk (n := 1) (y0 := (.lit (.int k a), [])) (y1 := (.lit (.int k b), [])) ht (by rw [hc]; rfl) (by rw [o0, c0]; exact trod_int_mk 0 u0 wa) (by rw [o1, c1]; exact trod_int_mk 0 u1 wb)⟩
end
end Go.Proofs.Ytgmgjkafdkgalaa
