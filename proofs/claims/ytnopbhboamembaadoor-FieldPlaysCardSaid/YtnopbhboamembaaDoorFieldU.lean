/- The walk of FieldPlays: up to the script. -/
import Derived.Test.YtnopbhboamembaaDoorFieldV
import Derived.Laws.AppendOwnNone
namespace Go.Proofs.YtnopbhboamembaaDoor
open Go.RowKit Go.Proofs

section
variable {P : Program} {ops : Array Oper} {rest : List Oper} {o : Oper} {a : Act} {w : World} {Q : Exit → Act → World → Prop}
theorem wpList_push_any (hgd : o.guard = none) (s x : Operand) (st t : TypeId)
    (ho : o.op = .call { callee := .builtin .append, args := #[s, x], argTypes := #[st, st] }) (ht : P.underlying st = some (.slice t))
    (z : Value) (size bytes : Nat) (hi : (P.info? t).map (fun i => (i.zero, i.size, i.bytes)) = some (some z, size, bytes)) (hzs : z.cells.size = size) (hsz : 0 < size) (hby : bytes ≤ 1000)
    (B n : Nat) (v : Value) (xs : List Value) (hs : a.eval s = v) (hown : w.ownsRow B t size v n xs)
    (A : Option Addr) (m c : Nat) (news : List Value) (hx : a.eval x = .slice A m c) (h0 : A = none → m = 0 ∧ c = 0) (hl : news.length = m * size) (hrow : RowC w A news) (h1 : ∀ u ∈ news, u.oneCell' = true) (hn : n + m ≤ 1000001) (hB : B ≤ w.heap.size)
    (h : ∀ v' w', w'.ownsRow B t size v' (n + m) (xs ++ news) → Sm (fun b => v.ownBlock = some b) w w' → (v'.ownBlock = v.ownBlock ∨ v'.ownBlock = some w.heap.size) → wpList P ops Q rest (a.put o.dst v') w') : wpList P ops Q (o :: rest) a w := by
  cases A with
  | some ad => exact wpList_push_row hgd s x st t ho ht z size bytes hi hzs hsz hby B n v xs hs hown ad m c news hx hl hrow h1 hn hB (fun v' w' a1 a2 a3 _ => h v' w' a1 a2 a3)
  | none =>
    obtain ⟨rfl, rfl⟩ := h0 rfl
    have hnn : news = [] := List.eq_nil_of_length_eq_zero (by rw [hl]; simp)
    subst hnn
    obtain ⟨i0, hi0, hz0, hz1, hz2⟩ := info_parts hi
    refine wpList_plain hgd fun K hK => ?_
    have hr := run_append_owned_none (P := P) (w := w) B st o.type t i0 size ht hi0 v n xs hown
    unfold Oper.wp execOp
    simp only [ho, resolve, invoke, builtin, Sem.run_bind, Sem.run_pure, Result.andThen_ok, List.map_toArray, List.map_cons, List.map_nil, hs, hx, hr]
    exact hK _ _ (h v w (by simpa using hown) (Sm.refl _ _) (Or.inl rfl))
end

theorem own_emptyAt (w : World) (t : TypeId) (size g : Nat) {B : Nat} (hg : g = w.heap.size) (hB : B ≤ w.heap.size) : (w.alloc (.cells #[] t)).ownsRow B t size (.slice (some ⟨g, 0, none⟩) 0 0) 0 [] := hg ▸ own_empty w t size hB

theorem text_of {t : ByteArray} {l : List UInt8} (h : t.data.toList = l) : t = ⟨l.toArray⟩ := by
  subst h; cases t; simp
/-- What holds at the head of each round. -/
def PlayRel (w0 : World) (g gx : Nat) (n : Nat) (i : Value) (wr : World) : Prop :=
  ∃ (k : Nat) (v vx : Value) (L : List Fld), k ≤ n ∧ i = .int .i64 k ∧ L.length ≤ 24 ∧ Short L ∧ Two w0 wr g gx v vx L L

def SpoilRel (w7 : World) (b8 c8 n : Nat) (i : Value) (wr : World) : Prop :=
  ∃ (j : Nat) (cs : List Value), j ≤ n ∧ i = .int .i64 j ∧ wr.ownsRow w7.heap.size 47 2 (.slice (some ⟨b8, 0, none⟩) n c8) n cs ∧ Sm No w7 wr

set_option maxRecDepth 100000 in
set_option maxHeartbeats 16000000 in
theorem fplays_any (A : Option Addr) (l0 : List Fld) (c : Nat) (B : Option Addr) (acts : List Act10) (d : Nat) (w : World) (hA : ArgF w A l0 c) (hB : ArgA w B acts d) :
    Calls Tryd.prog 3 #[.slice A l0.length c, .slice B acts.length d] w fun e w' => e = .returned (.bool true) ∧ Sm No w w' := by
  have HH := Lib.hid (heavy_any w B d acts hB)
  have hl0 : l0.length ≤ 4398046511104 := Nat.le_trans hA.2.1 hA.2.2.1
  have hacts : acts.length ≤ 4398046511104 := Nat.le_trans hB.2.1 hB.2.2.1
  have HA := Lib.hid (And.intro hA hB)
  clear hA hB
  go_enter Tryd.func3, Tryd.ntmps3
  go_wp2_with fail
  refine HH.out.mono ?_
  rintro e w1 ⟨b, rfl, hs1, hlight⟩
  cases b
  · have HL := Lib.hid (And.intro (hlight rfl) hs1)
    have hs2 := (Sm.refl No w1).alloc (.cells #[.int .i64 0, .string ⟨#[]⟩, .string ⟨#[]⟩, .slice A l0.length c] 26)
    have hb2 := Bk.new w1 26 #[.int .i64 0, .string ⟨#[]⟩, .string ⟨#[]⟩, .slice A l0.length c]
    have hA2 : ArgF (w1.alloc (.cells #[.int .i64 0, .string ⟨#[]⟩, .string ⟨#[]⟩, .slice A l0.length c] 26)) A l0 c := (HA.out.1.no hs1).no hs2
    have HH2 := Lib.hid (heavy_any (w1.alloc (.cells #[.int .i64 0, .string ⟨#[]⟩, .string ⟨#[]⟩, .slice A l0.length c] 26)) (some ⟨w1.heap.size, 0, none⟩) 1 [⟨0, ⟨#[]⟩, ⟨#[]⟩, A, c, l0⟩]
      ⟨fun k hk => (by
        obtain rfl : k = 0 := by simpa using hk
        exact ⟨⟨_, 0, rfl, hb2.lt, hb2.at 0 rfl, hb2.at 1 rfl, hb2.at 2 rfl, hb2.at 3 rfl⟩, hA2.1⟩), Nat.le_refl _, by omega, fun x hx => (by
        obtain rfl := List.mem_singleton.1 hx
        exact ⟨Nat.zero_le _, Nat.zero_le _, hA2⟩), fun h => by cases h⟩)
    have HS2 := Lib.hid hs2
    clear hlight hs1 hs2 hb2 hA2
    go_wp2_with fail
    refine HH2.out.mono ?_
    rintro e w2 ⟨b, rfl, hs3, hlight⟩
    have HS3 := Lib.hid ((HL.out.2.trans HS2.out (fun _ _ h => h)).trans hs3 (fun _ _ h => h))
    clear hs3
    cases b
    · obtain ⟨_, _, hl5, hsh⟩ := hlight rfl 0 (by simp) (by omega)
      simp only [List.getElem_cons_zero] at hl5 hsh
      have HF := Lib.hid (And.intro (HA.out.1.no HS3.out) hsh)
      have HN0 := Lib.hid (show A = none → l0.length = 0 ∧ c = 0 from fun e => by
        have h1 := HA.out.1.2.2.2.2 e
        have h2 := HA.out.1.2.1
        exact ⟨by omega, h1⟩)
      clear hlight hsh
      go_wp2_with (refine wpList_push_any rfl _ _ 22 47 rfl Tryd.underlying22 _ 2 32 infoFieldB rfl (by decide) (by decide) w2.heap.size 0 _ [] rfl (own_empty w2 _ _ (Nat.le_refl _)) A l0.length c (fldCells l0) rfl HN0.out (fldCells_len l0) (HF.out.1.1.rowC.no ((Sm.refl No w2).alloc _)) (fldCells_one l0) (by omega) (by simp) ?_; intro v' w3 hown hs4 _)
      have hsm4 : Sm No w2 w3 := ((Sm.refl No w2).alloc (.cells #[] 47)).trans hs4 (fun b hb e => by
        have e' : some w2.heap.size = some b := e
        injection e' with e'
        omega)
      rw [Nat.zero_add, List.nil_append] at hown
      have hO : OwnF w3 w2.heap.size v' l0 := hown
      obtain ⟨A3, c3, rfl, hR3⟩ := hO.row
      have HOf := Lib.hid (of_any w3 l0 A3 c3 hR3 HF.out.2 (by omega))
      have H3 := Lib.hid (And.intro (HF.out.1.no hsm4) (HS3.out.trans hsm4 (fun _ _ h => h)))
      have H3sm := Lib.hid hsm4
      clear hown hs4 hsm4 hO hR3
      go_wp2_with fail
      refine HOf.out.mono ?_
      rintro e w4 ⟨g, v, rfl, hg, hF4, hl4, hs5⟩
      have H4 := Lib.hid (And.intro hF4 (And.intro hg (And.intro (H3.out.1.no hs5) (H3.out.2.trans hs5 (fun _ _ h => h)))))
      have H4s := Lib.hid hs5
      clear hF4 hg hs5
      have hs6 := (Sm.refl No w4).alloc (.cells #[.slice none 0 0] 31)
      have hx0 : IsFields (w4.alloc (.cells #[.slice none 0 0] 31)) w3.heap.size w4.heap.size 31 (.slice none 0 0) [] :=
        ⟨Bk.new w4 _ _, World.ownsRow_nil _ _ _ 2, by simp [Value.ownBlock]⟩
      have HAdd := Lib.hid (rAdd_any (w4.alloc (.cells #[.slice none 0 0] 31)) w3.heap.size w4.heap.size (.slice none 0 0) [] l0 A c hx0 (by simp) (H4.out.2.2.1.no hs6).1 (fun hl a ha => by
        obtain ⟨bb, off, e, hb, _⟩ := H4.out.2.2.1.1 0 hl
        rw [e] at ha; injection ha with ha; subst ha
        rintro (e | e)
        · dsimp only at e; omega
        · simp [Value.ownBlock] at e) HF.out.2 (by omega) (by have := H4s.out.size; simp; omega))
      have H6 := Lib.hid hs6
      clear hs6 hx0
      go_wp2_with fail
      refine HAdd.out.mono ?_
      rintro e w5 ⟨vx, rfl, hX5, hlx, hs7, hfo⟩
      obtain ⟨L, hL⟩ : ∃ L, (addL [] l0).1 = L := ⟨_, rfl⟩
      have hLs : Short L := by rw [← hL]; exact short_addL HF.out.2
      have hTwo : Two w3 w5 g w4.heap.size v vx L L := by
        have hfl := H4.out.1.lt
        have h1 := H4.out.2.1
        have h2 := H4s.out.size
        rw [← hL]
        refine ⟨(H4.out.1.no H6.out).sm hs7 (fun e => ?_) (fun b hb e => ?_), hX5, by omega, fun b hb => ⟨by have := hfl.2 b hb; omega, fun e => ?_⟩, fun b hb => ?_, h1, h2, ((H4s.out.trans H6.out (fun _ _ h => h))).trans hs7 (fun b hb e => ?_)⟩
        · rcases e with e | e
          · omega
          · simp [Value.ownBlock] at e
        · have := hfl.2 b hb
          rcases e with e | e
          · omega
          · simp [Value.ownBlock] at e
        · have := hfl.2 b hb
          rcases follows_or hfo b e with e2 | e2
          · simp [Value.ownBlock] at e2
          · simp at e2; omega
        · rcases follows_or hfo b hb with e2 | e2
          · simp [Value.ownBlock] at e2
          · simp at e2; omega
        · rcases e with e | e
          · omega
          · simp [Value.ownBlock] at e
      rw [hL] at hl4
      have HT := Lib.hid (And.intro hTwo (And.intro hLs hl4))
      clear hX5 hlx hs7 hfo hL hLs hTwo hl4
      have HTsm := Lib.hid (show Sm No w2 w3 from H3sm.out)
      go_wp2_with fail
      go_loopw [7] (fun i wr => PlayRel w3 g w4.heap.size acts.length i wr) (fun i _ => acts.length - (intOf i).toNat)
      case atStart => exact ⟨0, v, vx, L, Nat.zero_le _, rfl, HT.out.2.2, HT.out.2.1, HT.out.1⟩
      case round =>
        obtain ⟨k, v', vx', L', hk, rfl, hL24, hLs, hTwo⟩ := hrel
        have HR := Lib.hid (And.intro hLs hTwo)
        clear hLs hTwo
        by_cases hlt : k < acts.length ∧ k < 80
        · obtain ⟨hlt1, hlt2⟩ := hlt
          obtain ⟨⟨bb, off, hBe, hbb, r0, r1, r2, r3⟩, hfr⟩ := (HA.out.2.1.no (HS3.out.trans (HTsm.out.trans HR.out.2.sm (fun _ _ h => h)) (fun _ _ h => h))) k hlt1
          obtain ⟨x1, x2, x3, x4⟩ := HL.out.1 k hlt1 hlt2
          subst hBe
          obtain ⟨⟨kd, nm, ot, la, lc, fl⟩, hxk⟩ : ∃ x, acts[k] = x := ⟨_, rfl⟩
          obtain ⟨_, _, hargf⟩ := HA.out.2.2.2.2.1 _ (List.getElem_mem hlt1)
          rw [hxk] at r0 r1 r2 r3 hfr x1 x2 x3 x4 hargf
          dsimp only at hfr x4 hargf
          have HX := Lib.hid (And.intro hfr (And.intro x4 hargf))
          dsimp only at r0 r1 r2 r3 x1 x2 x3
          have k1 : (0 : Int) ≤ (k : Int) := by omega
          have k2 : (k : Int) < (acts.length : Int) := by omega
          have hs0 := (Sm.refl No wr).alloc (.cells #[.int .i64 kd, .string nm, .string ot, .slice la fl.length lc] 26)
          have hbs := Bk.new wr 26 #[.int .i64 kd, .string nm, .string ot, .slice la fl.length lc]
          have TW := Lib.hid (And.intro (HR.out.2.no hs0) (And.intro HR.out.1 hL24))
          have HBS := Lib.hid (And.intro hbs hs0)
          clear hxk hfr x4 hs0 hbs hargf
          by_cases q1 : kd = 1
          · as_aux_lemma =>
              obtain rfl : kd = 1 := q1
              have e1 : ((1 : Int) == 1) = true := rfl
              have hgl := HR.out.2.f.lt
              have hxl := HR.out.2.x.lt
              have HLa := Lib.hid (show la = none → fl.length = 0 ∧ lc = 0 from fun e => by
                have h1 := HX.out.2.2.2.2.2.2 e
                have h2 := HX.out.2.2.2.1
                exact ⟨by omega, h1⟩)
              have HLF := Lib.hid ((HX.out.1.no HBS.out.2).no ((Sm.refl No (wr.alloc (.cells #[.int .i64 1, .string nm, .string ot, .slice la fl.length lc] 26))).alloc (.cells #[] 47)))
              go_wp2_with (refine wpList_push_any rfl _ _ 22 47 rfl Tryd.underlying22 _ 2 32 infoFieldB rfl (by decide) (by decide) wr.heap.size 0 _ [] rfl (own_emptyAt (wr.alloc (.cells #[.int .i64 1, .string nm, .string ot, .slice la fl.length lc] 26)) _ _ _ (by simp) (by simp)) la fl.length lc (fldCells fl) rfl HLa.out (fldCells_len fl) HLF.out.rowC (fldCells_one fl) (by omega) (by simp; omega) ?_; intro v5 wA hown hsA _)
              have hsmA : Sm No (wr.alloc (.cells #[.int .i64 1, .string nm, .string ot, .slice la fl.length lc] 26)) wA := ((Sm.refl No (wr.alloc (.cells #[.int .i64 1, .string nm, .string ot, .slice la fl.length lc] 26))).alloc (.cells #[] 47)).trans hsA (fun b hb e => by
                have e' : some (wr.heap.size + 1) = some b := e
                injection e' with e'
                simp at hb; omega)
              rw [Nat.zero_add, List.nil_append] at hown
              have hO : OwnF wA wr.heap.size v5 fl := hown
              obtain ⟨A5, c5, rfl, hR5, hB5⟩ := hO.row2
              have hTA := (HR.out.2.no HBS.out.2).no hsmA
              have hBA := HBS.out.1.sm hsmA (fun h => h)
              have hdA : ∀ a, A5 = some a → ¬ TouchF g v' a.block ∧ ¬ TouchF w4.heap.size vx' a.block := fun a ha => by
                have h1 := (hB5 a ha).1
                refine ⟨fun e => ?_, fun e => ?_⟩
                · rcases e with e | e
                  · omega
                  · have := (hgl.2 _ e).2; omega
                · rcases e with e | e
                  · omega
                  · have := (hxl.2 _ e).2; omega
              have HAdd := Lib.hid (add_any wA w3.heap.size g v' L' fl A5 c5 hTA.f hL24 hR5 (fun _ a ha => (hdA a ha).1) HX.out.2.1 (by omega) hTA.sm.size)
              have HA5 := Lib.hid (And.intro hR5 (And.intro hdA (And.intro hTA hBA)))
              clear hown hsA hsmA hO hR5 hB5 hTA hBA hdA
              go_wp2_with fail
              refine HAdd.out.mono ?_
              rintro e wB ⟨v1, rfl, hF7, hl7, hs7, hfo7⟩
              have hTB := HA5.out.2.2.1.stepF hs7 hF7 (follows_or hfo7)
              have hbB := HA5.out.2.2.2.sm hs7 (fun e => by
                rcases e with e | e
                · omega
                · have := (hgl.2 _ e).2; omega)
              have hRB := HA5.out.1.sm hs7 (fun a ha => (HA5.out.2.1 a ha).1)
              have hLB := HX.out.2.2.1.no (HS3.out.trans (HTsm.out.trans hTB.sm (fun _ _ h => h)) (fun _ _ h => h))
              have hdL : ∀ a, 0 < fl.length → la = some a → ¬ TouchF w4.heap.size vx' a.block := fun a hl ha e => by
                obtain ⟨b9, o9, e9, hb9, _⟩ := HX.out.2.2.1 0 hl
                rw [e9] at ha
                injection ha with ha
                subst ha
                have h1 := HS3.out.size
                have h2 := HTsm.out.size
                rcases e with e | e
                · have := hTB.gx0; dsimp only at e; omega
                · have := (hTB.x.lt.2 _ e).1; dsimp only at this; omega
              have HAdd2 := Lib.hid (rAdd_any wB w3.heap.size w4.heap.size vx' L' fl la lc hTB.x hL24 hLB (fun hl a ha => hdL a hl ha) HX.out.2.1 (by omega) hTB.sm.size)
              have b3 := hbB.at 3 (v := .slice la fl.length lc) rfl
              have HTB := Lib.hid (And.intro hTB (And.intro hbB (And.intro hRB (And.intro hl7 hLB))))
              clear hTB hbB hRB hLB hdL hF7 hl7 hs7 hfo7
              go_wp2_with fail
              refine HAdd2.out.mono ?_
              rintro e wC ⟨v2, rfl, hX8, hl8, hs8, hfo8⟩
              have hTC := HTB.out.1.stepX hs8 hX8 (follows_or hfo8)
              have hbC := HTB.out.2.1.sm hs8 (fun e => by
                rcases e with e | e
                · omega
                · have := (hxl.2 _ e).2; omega)
              have hRC := HTB.out.2.2.1.sm hs8 (fun a ha => (HA5.out.2.1 a ha).2)
              have hLC := HX.out.2.2.1.no (HS3.out.trans (HTsm.out.trans hTC.sm (fun _ _ h => h)) (fun _ _ h => h))
              have hMs := addL_short fl L' HR.out.1 HX.out.2.1
              have hM24 := HTB.out.2.2.2.1
              have b4 := hbC.at 3 (v := .slice la fl.length lc) rfl
              obtain ⟨M, hM⟩ : ∃ M, (addL L' fl).1 = M := ⟨_, rfl⟩
              rw [hM] at hTC hMs hM24
              have HTC := Lib.hid (And.intro hTC (And.intro hRC (And.intro hLC (And.intro hMs hM24))))
              clear hTC hbC hRC hLC hX8 hl8 hs8 hfo8 hMs hM24 hM b3
              go_wp2_with fail
              refine (fields_any wC A5 la c5 lc fl HTC.out.2.1 HTC.out.2.2.1 (by omega)).mono ?_
              rintro e wD ⟨rfl, hs9⟩
              have TX := Lib.hid (And.intro (HTC.out.1.no hs9) HTC.out.2.2.2)
              clear hs9 b4
              go_wp2_with fail
              have HL6 : M.length ≤ 1000000 := by have := TX.out.2.2; omega
              refine (all_any _ _ g v1 M TX.out.1.f HL6).mono ?_
              rintro e w8 ⟨v8, rfl, hO8, hs8⟩
              obtain ⟨A8, c8, hv8, hR8⟩ := hO8.row
              subst hv8
              have HT8 := Lib.hid (TX.out.1.no hs8)
              have hxr := HT8.out.x.row
              obtain ⟨Ax, cx, hvx, hRx⟩ := hxr
              subst hvx
              have cx8 := HT8.out.x.1.at 0 (v := .slice Ax M.length cx) rfl
              have H8 := Lib.hid (And.intro hO8 (And.intro hs8 (And.intro hR8 hRx)))
              clear hO8 hs8 hR8 hRx
              go_wp2_with fail
              have hsr := Sm.refl No w8
              go_region_held3 (fun w' => w'.cell? ⟨w4.heap.size, 0, none⟩ = some (.slice Ax M.length cx)) (first | assumption)
                (first
                  | (go_at_call 23; (with_reducible refine (len_any _ _ g v1 M (HT8.out.f.no (by first | exact hsr.drew | exact hsr.drew.drew | exact hsr9)) HL6).mono ?_); rintro e w9 ⟨rfl, rfl⟩)
                  | (go_at_call 13; (with_reducible refine (fields_any _ A8 Ax c8 cx M (H8.out.2.2.1.no (by first | exact hsr.drew | exact hsr.drew.drew)) (H8.out.2.2.2.no (by first | exact hsr.drew | exact hsr.drew.drew)) HL6).mono ?_); rintro e w9 ⟨rfl, hs9⟩; have hsr9 := (show Sm No w8 _ from by first | exact hsr.drew | exact hsr.drew.drew).trans hs9 (fun _ _ h => h); have cx9 := hsr9.cell HT8.out.x.1.lt cx8))
              all_goals
                have H9 := Lib.hid hsr9
                have HT9 := Lib.hid (HT8.out.no hsr9)
                have HO9 := Lib.hid (own_row_sm H8.out.1 hsr9 (fun _ _ h => h))
                clear hsr9 cx9 cx8 hsr hs9
                rcases own_row_form HO9.out with ⟨hv0, hn0, _⟩ | ⟨b8, cap8, hv8', hob, hB8, hg8, hc8, _, _⟩
                · have hz : ¬ (0 : Int) < (M.length : Int) := by omega
                  clear hv0 hn0
                  go_wp2_with fail
                  go_loopw [16] (fun i wr' => CountRel w9 0 i wr') (fun i _ => 0 - (intOf i).toNat)
                  case atStart => exact ⟨0, Nat.le_refl _, rfl, Sm.refl _ _⟩
                  case round =>
                    obtain ⟨j, hj, rfl, hs10⟩ := hrel
                    obtain rfl : j = 0 := by omega
                    have HT10 := Lib.hid (HT9.out.no hs10)
                    clear hs10
                    go_wp2_with fail
                    exact ⟨⟨k + 1, _, _, M, by omega, by go_num, TX.out.2.2, TX.out.2.1, HT10.out⟩, by simp [intOf]; omega⟩
                · injection hv8' with hv1 _ hv2
                  subst hv1
                  have HB8 := Lib.hid (show wD.heap.size ≤ b8 from hB8)
                  clear hv2 hob hB8 hc8
                  have hSp : SpoilRel wD b8 c8 M.length (.int .i64 0) w9 := ⟨0, _, Nat.zero_le _, rfl, HO9.out, (H8.out.2.1).trans H9.out (fun _ _ h => h)⟩
                  have HSp := Lib.hid hSp
                  clear hSp
                  go_wp2_with fail
                  go_loopw [16] (fun i wr' => SpoilRel wD b8 c8 M.length i wr') (fun i _ => M.length - (intOf i).toNat)
                  case atStart => exact HSp.out
                  case round =>
                    obtain ⟨j, cs, hj, rfl, how, hs10⟩ := hrel
                    have HW10 := Lib.hid (And.intro how hs10)
                    clear hs10
                    by_cases hlt3 : j < M.length
                    · obtain ⟨u, hu⟩ : ∃ u, cs[j * 2]? = some u := ⟨cs[j * 2]'(by rw [how.1]; omega), by simp⟩
                      have d0 := (World.ownsRow.cellAt how (j * 2) (by omega)).trans hu
                      have z0 := World.ownsRow.frozenAt how (j * 2)
                      have hst := (World.ownsRow.stored how (j * 2) (.string ⟨#[115, 112, 111, 105, 108, 116]⟩)).1
                      have hS11 := HW10.out.2.setN HB8.out (j * 2) (.string ⟨#[115, 112, 111, 105, 108, 116]⟩)
                      have H11 := Lib.hid (And.intro hst hS11)
                      have j1 : (0 : Int) ≤ (j : Int) := by omega
                      have j2 : (j : Int) < (M.length : Int) := by omega
                      clear hst hS11 how hu
                      go_wp2_with fail
                      exact ⟨⟨j + 1, _, by omega, by go_num, H11.out.1, H11.out.2⟩, by simp [intOf]; omega⟩
                    · have HT10 := Lib.hid (TX.out.1.no HW10.out.2)
                      clear how
                      go_wp2_with fail
                      exact ⟨⟨k + 1, _, _, M, by omega, by go_num, TX.out.2.2, TX.out.2.1, HT10.out⟩, by simp [intOf]; omega⟩
          · by_cases q2 : kd = 2
            · as_aux_lemma =>
                obtain rfl : kd = 2 := q2
                have cx0 := HBS.out.1.at 1 (v := .string nm) rfl
                have hnm : nm.size ≤ 1000000 := by omega
                obtain ⟨vl, hvl⟩ : ∃ vl, valuesL L' nm = vl := ⟨_, rfl⟩
                obtain ⟨gr, hgr⟩ : ∃ gr, (⟨(getL L' nm).toArray⟩ : ByteArray) = gr := ⟨_, rfl⟩
                have hvl6 : vl.length ≤ 1000000 := by
                  have := valuesL_len L' nm
                  rw [hvl] at this
                  omega
                have hdd : decide (0 < vl.length) = decide ((0 : Int) < (vl.length : Int)) := decide_eq_decide.2 (by omega)
                have HVL := Lib.hid hvl
                have HGR := Lib.hid hgr
                have HDD := Lib.hid hdd
                clear hvl hgr hdd
                go_wp2_with fail
                have hsr := Sm.refl No (wr.alloc (.cells #[.int .i64 2, .string nm, .string ot, .slice la fl.length lc] 26))
                go_region_held3 (fun w' => w'.cell? ⟨wr.heap.size, 1, none⟩ = some (.string nm)) (first | assumption)
                  (first
                    | (go_at_call 15; (with_reducible refine (values_any _ _ g v' L' nm (TW.out.1.f.no (by first | exact hsr | exact hsr.drew | exact hsr.drew.drew)) TW.out.2.2 TW.out.2.1 hnm).mono ?_); rintro e wa ⟨va, rfl, hOa, hsa⟩; obtain ⟨Aa, ca, hva, hRa⟩ := hOa.row; subst hva; rw [HVL.out] at hRa ⊢; have hsra := (show Sm No (wr.alloc (.cells #[.int .i64 2, .string nm, .string ot, .slice la fl.length lc] 26)) _ from by first | exact hsr | exact hsr.drew | exact hsr.drew.drew).trans hsa (fun _ _ h => h); have cxa := hsra.cell HBS.out.1.lt cx0)
                    | (go_at_call 16; (with_reducible refine (rValues_any _ _ w4.heap.size vx' L' nm (TW.out.1.x.no (by first | exact hsrh | exact hsrh.drew | exact hsrh.drew.drew)) TW.out.2.2 TW.out.2.1 hnm).mono ?_); rintro e wf ⟨vf, rfl, hOf, hsf⟩; obtain ⟨Af, cf, hvf, hRf⟩ := hOf.row; subst hvf; rw [HVL.out]; have hsrf := (show Sm No (wr.alloc (.cells #[.int .i64 2, .string nm, .string ot, .slice la fl.length lc] 26)) _ from by first | exact hsrh | exact hsrh.drew | exact hsrh.drew.drew).trans hsf (fun _ _ h => h); have cxf := hsrf.cell HBS.out.1.lt cx0)
                    | (go_at_call 16; (with_reducible refine (rValues_any _ _ w4.heap.size vx' L' nm (TW.out.1.x.no (by first | exact hsra | exact hsra.drew | exact hsra.drew.drew)) TW.out.2.2 TW.out.2.1 hnm).mono ?_); rintro e wb ⟨vb, rfl, hOb, hsb⟩; obtain ⟨Ab, cb, hvb, hRb⟩ := hOb.row; subst hvb; rw [HVL.out] at hRb ⊢; have hsrb := (show Sm No (wr.alloc (.cells #[.int .i64 2, .string nm, .string ot, .slice la fl.length lc] 26)) _ from by first | exact hsra | exact hsra.drew | exact hsra.drew.drew).trans hsb (fun _ _ h => h); have cxb := hsrb.cell HBS.out.1.lt cx0; have hRa2 := hRa.no ((show Sm No wa _ from by first | exact Sm.refl No wa | exact (Sm.refl No wa).drew | exact (Sm.refl No wa).drew.drew).trans hsb (fun _ _ h => h)))
                    | (go_at_call 14; (with_reducible refine (texts10_any _ Aa Ab ca cb vl (hRa2.no (by first | exact Sm.refl No wb | exact (Sm.refl No wb).drew | exact (Sm.refl No wb).drew.drew)) (hRb.no (by first | exact Sm.refl No wb | exact (Sm.refl No wb).drew | exact (Sm.refl No wb).drew.drew)) hvl6).mono ?_); rintro e wc ⟨rfl, hsc⟩; have hsrc := (show Sm No (wr.alloc (.cells #[.int .i64 2, .string nm, .string ot, .slice la fl.length lc] 26)) _ from by first | exact hsrb | exact hsrb.drew | exact hsrb.drew.drew).trans hsc (fun _ _ h => h); have cxc := hsrc.cell HBS.out.1.lt cx0)
                    | (go_at_call 17; (with_reducible refine (get_any _ _ g v' L' nm (TW.out.1.f.no (by first | exact hsrc | exact hsrc.drew | exact hsrc.drew.drew)) TW.out.2.2 TW.out.2.1 hnm).mono ?_); rintro e wd ⟨he, hsd⟩; rw [HGR.out] at he; subst he; have hsrd := (show Sm No (wr.alloc (.cells #[.int .i64 2, .string nm, .string ot, .slice la fl.length lc] 26)) _ from by first | exact hsrc | exact hsrc.drew | exact hsrc.drew.drew).trans hsd (fun _ _ h => h); have cxd := hsrd.cell HBS.out.1.lt cx0)
                    | (go_at_call 18; (with_reducible refine (rGet_any _ _ w4.heap.size vx' L' nm (TW.out.1.x.no (by first | exact hsrd | exact hsrd.drew | exact hsrd.drew.drew)) TW.out.2.2 TW.out.2.1 hnm).mono ?_); rintro e we ⟨t, ht, he, hse⟩; obtain rfl : t = gr := (text_of ht).trans HGR.out; subst he; have hsre := (show Sm No (wr.alloc (.cells #[.int .i64 2, .string nm, .string ot, .slice la fl.length lc] 26)) _ from by first | exact hsrd | exact hsrd.drew | exact hsrd.drew.drew).trans hse (fun _ _ h => h); have cxe := hsre.cell HBS.out.1.lt cx0)
                    | (go_at_call 19; (with_reducible refine (has_any _ _ g v' L' nm (TW.out.1.f.no (by first | exact hsre | exact hsre.drew | exact hsre.drew.drew)) TW.out.2.2 TW.out.2.1 hnm).mono ?_); rintro e wh ⟨he, hsh⟩; rw [HVL.out, HDD.out] at he; subst he; have hsrh := (show Sm No (wr.alloc (.cells #[.int .i64 2, .string nm, .string ot, .slice la fl.length lc] 26)) _ from by first | exact hsre | exact hsre.drew | exact hsre.drew.drew).trans hsh (fun _ _ h => h); have cxh := hsrh.cell HBS.out.1.lt cx0))
                all_goals
                  have TX := Lib.hid (And.intro (TW.out.1.no hsrf) TW.out.2)
                  clear hsr hsra hsrb hsrc hsrd hsre hsrh hsrf cx0 cxa cxb cxc cxd cxe cxh cxf hsa hsb hsc hsd hse hsh hsf
                  go_wp2_with fail
                  have HL6 : L'.length ≤ 1000000 := by have := TX.out.2.2; omega
                  refine (all_any _ _ g v' L' TX.out.1.f HL6).mono ?_
                  rintro e w8 ⟨v8, rfl, hO8, hs8⟩
                  obtain ⟨A8, c8, hv8, hR8⟩ := hO8.row
                  subst hv8
                  have HT8 := Lib.hid (TX.out.1.no hs8)
                  have hxr := HT8.out.x.row
                  obtain ⟨Ax, cx, hvx, hRx⟩ := hxr
                  subst hvx
                  have cx8 := HT8.out.x.1.at 0 (v := .slice Ax L'.length cx) rfl
                  have H8 := Lib.hid (And.intro hO8 (And.intro hs8 (And.intro hR8 hRx)))
                  clear hO8 hs8 hR8 hRx
                  go_wp2_with fail
                  have hsr := Sm.refl No w8
                  go_region_held3 (fun w' => w'.cell? ⟨w4.heap.size, 0, none⟩ = some (.slice Ax L'.length cx)) (first | assumption)
                    (first
                      | (go_at_call 23; (with_reducible refine (len_any _ _ g v' L' (HT8.out.f.no (by first | exact hsr.drew | exact hsr.drew.drew | exact hsr9)) HL6).mono ?_); rintro e w9 ⟨rfl, rfl⟩)
                      | (go_at_call 13; (with_reducible refine (fields_any _ A8 Ax c8 cx L' (H8.out.2.2.1.no (by first | exact hsr.drew | exact hsr.drew.drew)) (H8.out.2.2.2.no (by first | exact hsr.drew | exact hsr.drew.drew)) HL6).mono ?_); rintro e w9 ⟨rfl, hs9⟩; have hsr9 := (show Sm No w8 _ from by first | exact hsr.drew | exact hsr.drew.drew).trans hs9 (fun _ _ h => h); have cx9 := hsr9.cell HT8.out.x.1.lt cx8))
                  all_goals
                    have H9 := Lib.hid hsr9
                    have HT9 := Lib.hid (HT8.out.no hsr9)
                    have HO9 := Lib.hid (own_row_sm H8.out.1 hsr9 (fun _ _ h => h))
                    clear hsr9 cx9 cx8 hsr hs9
                    rcases own_row_form HO9.out with ⟨hv0, hn0, _⟩ | ⟨b8, cap8, hv8', hob, hB8, hg8, hc8, _, _⟩
                    · have hz : ¬ (0 : Int) < (L'.length : Int) := by omega
                      clear hv0 hn0
                      go_wp2_with fail
                      go_loopw [16] (fun i wr' => CountRel w9 0 i wr') (fun i _ => 0 - (intOf i).toNat)
                      case atStart => exact ⟨0, Nat.le_refl _, rfl, Sm.refl _ _⟩
                      case round =>
                        obtain ⟨j, hj, rfl, hs10⟩ := hrel
                        obtain rfl : j = 0 := by omega
                        have HT10 := Lib.hid (HT9.out.no hs10)
                        clear hs10
                        go_wp2_with fail
                        exact ⟨⟨k + 1, _, _, L', by omega, by go_num, TX.out.2.2, TX.out.2.1, HT10.out⟩, by simp [intOf]; omega⟩
                    · injection hv8' with hv1 _ hv2
                      subst hv1
                      have HB8 := Lib.hid (show wf.heap.size ≤ b8 from hB8)
                      clear hv2 hob hB8 hc8
                      have hSp : SpoilRel wf b8 c8 L'.length (.int .i64 0) w9 := ⟨0, _, Nat.zero_le _, rfl, HO9.out, (H8.out.2.1).trans H9.out (fun _ _ h => h)⟩
                      have HSp := Lib.hid hSp
                      clear hSp
                      go_wp2_with fail
                      go_loopw [16] (fun i wr' => SpoilRel wf b8 c8 L'.length i wr') (fun i _ => L'.length - (intOf i).toNat)
                      case atStart => exact HSp.out
                      case round =>
                        obtain ⟨j, cs, hj, rfl, how, hs10⟩ := hrel
                        have HW10 := Lib.hid (And.intro how hs10)
                        clear hs10
                        by_cases hlt3 : j < L'.length
                        · obtain ⟨u, hu⟩ : ∃ u, cs[j * 2]? = some u := ⟨cs[j * 2]'(by rw [how.1]; omega), by simp⟩
                          have d0 := (World.ownsRow.cellAt how (j * 2) (by omega)).trans hu
                          have z0 := World.ownsRow.frozenAt how (j * 2)
                          have hst := (World.ownsRow.stored how (j * 2) (.string ⟨#[115, 112, 111, 105, 108, 116]⟩)).1
                          have hS11 := HW10.out.2.setN HB8.out (j * 2) (.string ⟨#[115, 112, 111, 105, 108, 116]⟩)
                          have H11 := Lib.hid (And.intro hst hS11)
                          have j1 : (0 : Int) ≤ (j : Int) := by omega
                          have j2 : (j : Int) < (L'.length : Int) := by omega
                          clear hst hS11 how hu
                          go_wp2_with fail
                          exact ⟨⟨j + 1, _, by omega, by go_num, H11.out.1, H11.out.2⟩, by simp [intOf]; omega⟩
                        · have HT10 := Lib.hid (TX.out.1.no HW10.out.2)
                          clear how
                          go_wp2_with fail
                          exact ⟨⟨k + 1, _, _, L', by omega, by go_num, TX.out.2.2, TX.out.2.1, HT10.out⟩, by simp [intOf]; omega⟩
            · by_cases q3 : kd = 3
              · as_aux_lemma =>
                  obtain rfl : kd = 3 := q3
                  have cx1 := HBS.out.1.at 1 (v := .string nm) rfl
                  have cx2 := HBS.out.1.at 2 (v := .string ot) rfl
                  have hgz : w4.heap.size < wr.heap.size := HR.out.2.x.lt.1
                  obtain ⟨M, hM⟩ : ∃ M, leftL [nm, ot] L' = M := ⟨_, rfl⟩
                  have hMs : Short M := by rw [← hM]; exact short_left _ HR.out.1
                  have hML : M.length ≤ 24 := by
                    have := leftL_len [nm, ot] L'
                    rw [hM] at this
                    omega
                  obtain ⟨nd, hnd⟩ : ∃ nd, L'.length - M.length = nd := ⟨_, rfl⟩
                  have HM := Lib.hid (And.intro hM (And.intro hnd (And.intro hMs hML)))
                  have hns : ∀ s ∈ [nm, ot], s.size ≤ 1000000 := fun s hs => by
                    rcases List.mem_cons.1 hs with e | e
                    · subst e; omega
                    · obtain rfl := List.mem_singleton.1 e; omega
                  have HL6 : L'.length ≤ 1000000 := by omega
                  have HDF := Lib.hid (fun (W : World) (hs : Sm No wr W) (b : Nat) (hb : Bk W b 9 #[.string nm, .string ot]) (hwb : wr.heap.size ≤ b) => dropF_two HR.out.2 hs HL6 HR.out.1 hns hM hnd hb hwb)
                  have HDX := Lib.hid (fun (va : Value) (W1 W : World) (hT : Two w3 W1 g w4.heap.size va vx' M L') (hs : Sm No W1 W) (b : Nat) (hb : Bk W b 9 #[.string nm, .string ot]) => dropX_two (wr := wr) hT hs hgz HL6 HR.out.1 hns hM hnd hb)
                  clear hM hnd hMs hns hML hgz
                  go_wp2_with fail
                  have hsr := (Sm.refl No wr).alloc (.cells #[.int .i64 3, .string nm, .string ot, .slice la fl.length lc] 26)
                  go_region_held3 (fun w' => w'.cell? ⟨wr.heap.size, 1, none⟩ = some (.string nm) ∧ w'.cell? ⟨wr.heap.size, 2, none⟩ = some (.string ot)) (first | assumption | exact ⟨cx1, cx2⟩ | exact ⟨cxa1, cxa2⟩ | exact ⟨cxb1, cxb2⟩ | (constructor <;> go_keep))
                    (first
                      | (go_at_call 20
                         refine (HDF.out _ ?_ _ ?_ ?_).mono ?_
                         · repeat (first | exact hsr | apply Sm.alloc | apply Sm.drew)
                         · repeat (first | (refine Bk.newAt _ _ _ ?_; (first | rfl | (simp; done))) | apply Bk.alloc | apply Bk.drew)
                         · first | omega | (simp; done) | (simp; omega)
                         rintro e wa ⟨va, rfl, hTa, hka⟩
                         have hba := hka wr.heap.size 26 #[.int .i64 3, .string nm, .string ot, .slice la fl.length lc] (Nat.le_refl _) (by repeat (first | exact HBS.out.1 | apply Bk.alloc | apply Bk.drew))
                         have hBB1 := hka (wr.heap.size + 1) 9 #[.string nm, .string ot] (by omega) (by repeat (first | (refine Bk.newAt _ _ _ ?_; (first | rfl | (simp; done))) | apply Bk.alloc | apply Bk.drew))
                         have hBB2 := fun h => hka (wr.heap.size + 2) 9 #[.string nm, .string ot] (by omega) h
                         have cxa1 := hba.at 1 (v := .string nm) rfl
                         have cxa2 := hba.at 2 (v := .string ot) rfl
                         have hra := Sm.refl No wa)
                      | (go_at_call 21
                         refine (HDX.out _ _ _ hTa ?_ _ ?_).mono ?_
                         · repeat (first | exact hra | apply Sm.alloc | apply Sm.drew)
                         · repeat (first | exact hBB1 | (refine hBB2 ?_; refine Bk.newAt _ _ _ ?_; (first | rfl | (simp; done))) | (refine Bk.newAt _ _ _ ?_; (first | rfl | (simp; done))) | apply Bk.alloc | apply Bk.drew)
                         rintro e wb ⟨vb, rfl, hTb, hkb⟩
                         have hbb := hkb wr.heap.size 26 #[.int .i64 3, .string nm, .string ot, .slice la fl.length lc] (Nat.le_refl _) (by repeat (first | exact hba | apply Bk.alloc | apply Bk.drew))
                         have cxb1 := hbb.at 1 (v := .string nm) rfl
                         have cxb2 := hbb.at 2 (v := .string ot) rfl))
                  all_goals
                    have TX := Lib.hid (And.intro hTb HM.out.2.2)
                    clear hsr hTb hTa hba hbb hka hkb hBB1 hBB2 cx1 cx2 cxa1 cxa2 cxb1 cxb2 hra
                    go_wp2_with fail
                    have HL6 : M.length ≤ 1000000 := by have := TX.out.2.2; omega
                    refine (all_any _ _ g va M TX.out.1.f HL6).mono ?_
                    rintro e w8 ⟨v8, rfl, hO8, hs8⟩
                    obtain ⟨A8, c8, hv8, hR8⟩ := hO8.row
                    subst hv8
                    have HT8 := Lib.hid (TX.out.1.no hs8)
                    have hxr := HT8.out.x.row
                    obtain ⟨Ax, cx, hvx, hRx⟩ := hxr
                    subst hvx
                    have cx8 := HT8.out.x.1.at 0 (v := .slice Ax M.length cx) rfl
                    have H8 := Lib.hid (And.intro hO8 (And.intro hs8 (And.intro hR8 hRx)))
                    clear hO8 hs8 hR8 hRx
                    go_wp2_with fail
                    have hsr := Sm.refl No w8
                    go_region_held3 (fun w' => w'.cell? ⟨w4.heap.size, 0, none⟩ = some (.slice Ax M.length cx)) (first | assumption)
                      (first
                        | (go_at_call 23; (with_reducible refine (len_any _ _ g va M (HT8.out.f.no (by first | exact hsr.drew | exact hsr.drew.drew | exact hsr9)) HL6).mono ?_); rintro e w9 ⟨rfl, rfl⟩)
                        | (go_at_call 13; (with_reducible refine (fields_any _ A8 Ax c8 cx M (H8.out.2.2.1.no (by first | exact hsr.drew | exact hsr.drew.drew)) (H8.out.2.2.2.no (by first | exact hsr.drew | exact hsr.drew.drew)) HL6).mono ?_); rintro e w9 ⟨rfl, hs9⟩; have hsr9 := (show Sm No w8 _ from by first | exact hsr.drew | exact hsr.drew.drew).trans hs9 (fun _ _ h => h); have cx9 := hsr9.cell HT8.out.x.1.lt cx8))
                    all_goals
                      have H9 := Lib.hid hsr9
                      have HT9 := Lib.hid (HT8.out.no hsr9)
                      have HO9 := Lib.hid (own_row_sm H8.out.1 hsr9 (fun _ _ h => h))
                      clear hsr9 cx9 cx8 hsr hs9
                      rcases own_row_form HO9.out with ⟨hv0, hn0, _⟩ | ⟨b8, cap8, hv8', hob, hB8, hg8, hc8, _, _⟩
                      · have hz : ¬ (0 : Int) < (M.length : Int) := by omega
                        clear hv0 hn0
                        go_wp2_with fail
                        go_loopw [16] (fun i wr' => CountRel w9 0 i wr') (fun i _ => 0 - (intOf i).toNat)
                        case atStart => exact ⟨0, Nat.le_refl _, rfl, Sm.refl _ _⟩
                        case round =>
                          obtain ⟨j, hj, rfl, hs10⟩ := hrel
                          obtain rfl : j = 0 := by omega
                          have HT10 := Lib.hid (HT9.out.no hs10)
                          clear hs10
                          go_wp2_with fail
                          exact ⟨⟨k + 1, _, _, M, by omega, by go_num, TX.out.2.2, TX.out.2.1, HT10.out⟩, by simp [intOf]; omega⟩
                      · injection hv8' with hv1 _ hv2
                        subst hv1
                        have HB8 := Lib.hid (show wb.heap.size ≤ b8 from hB8)
                        clear hv2 hob hB8 hc8
                        have hSp : SpoilRel wb b8 c8 M.length (.int .i64 0) w9 := ⟨0, _, Nat.zero_le _, rfl, HO9.out, (H8.out.2.1).trans H9.out (fun _ _ h => h)⟩
                        have HSp := Lib.hid hSp
                        clear hSp
                        go_wp2_with fail
                        go_loopw [16] (fun i wr' => SpoilRel wb b8 c8 M.length i wr') (fun i _ => M.length - (intOf i).toNat)
                        case atStart => exact HSp.out
                        case round =>
                          obtain ⟨j, cs, hj, rfl, how, hs10⟩ := hrel
                          have HW10 := Lib.hid (And.intro how hs10)
                          clear hs10
                          by_cases hlt3 : j < M.length
                          · obtain ⟨u, hu⟩ : ∃ u, cs[j * 2]? = some u := ⟨cs[j * 2]'(by rw [how.1]; omega), by simp⟩
                            have d0 := (World.ownsRow.cellAt how (j * 2) (by omega)).trans hu
                            have z0 := World.ownsRow.frozenAt how (j * 2)
                            have hst := (World.ownsRow.stored how (j * 2) (.string ⟨#[115, 112, 111, 105, 108, 116]⟩)).1
                            have hS11 := HW10.out.2.setN HB8.out (j * 2) (.string ⟨#[115, 112, 111, 105, 108, 116]⟩)
                            have H11 := Lib.hid (And.intro hst hS11)
                            have j1 : (0 : Int) ≤ (j : Int) := by omega
                            have j2 : (j : Int) < (M.length : Int) := by omega
                            clear hst hS11 how hu
                            go_wp2_with fail
                            exact ⟨⟨j + 1, _, by omega, by go_num, H11.out.1, H11.out.2⟩, by simp [intOf]; omega⟩
                          · have HT10 := Lib.hid (TX.out.1.no HW10.out.2)
                            clear how
                            go_wp2_with fail
                            exact ⟨⟨k + 1, _, _, M, by omega, by go_num, TX.out.2.2, TX.out.2.1, HT10.out⟩, by simp [intOf]; omega⟩
              · as_aux_lemma =>
                  have e1 : (kd == 1) = false := by simpa using q1
                  have e2 : (kd == 2) = false := by simpa using q2
                  have e3 : (kd == 3) = false := by simpa using q3
                  go_wp2_with fail
                  have HL6 : L'.length ≤ 1000000 := by have := TW.out.2.2; omega
                  refine (all_any _ _ g v' L' TW.out.1.f HL6).mono ?_
                  rintro e w8 ⟨v8, rfl, hO8, hs8⟩
                  obtain ⟨A8, c8, hv8, hR8⟩ := hO8.row
                  subst hv8
                  have HT8 := Lib.hid (TW.out.1.no hs8)
                  have hxr := HT8.out.x.row
                  obtain ⟨Ax, cx, hvx, hRx⟩ := hxr
                  subst hvx
                  have cx8 := HT8.out.x.1.at 0 (v := .slice Ax L'.length cx) rfl
                  have H8 := Lib.hid (And.intro hO8 (And.intro hs8 (And.intro hR8 hRx)))
                  clear hO8 hs8 hR8 hRx
                  go_wp2_with fail
                  have hsr := Sm.refl No w8
                  go_region_held3 (fun w' => w'.cell? ⟨w4.heap.size, 0, none⟩ = some (.slice Ax L'.length cx)) (first | assumption)
                    (first
                      | (go_at_call 23; (with_reducible refine (len_any _ _ g v' L' (HT8.out.f.no (by first | exact hsr.drew | exact hsr.drew.drew | exact hsr9)) HL6).mono ?_); rintro e w9 ⟨rfl, rfl⟩)
                      | (go_at_call 13; (with_reducible refine (fields_any _ A8 Ax c8 cx L' (H8.out.2.2.1.no (by first | exact hsr.drew | exact hsr.drew.drew)) (H8.out.2.2.2.no (by first | exact hsr.drew | exact hsr.drew.drew)) HL6).mono ?_); rintro e w9 ⟨rfl, hs9⟩; have hsr9 := (show Sm No w8 _ from by first | exact hsr.drew | exact hsr.drew.drew).trans hs9 (fun _ _ h => h); have cx9 := hsr9.cell HT8.out.x.1.lt cx8))
                  all_goals
                    have H9 := Lib.hid hsr9
                    have HT9 := Lib.hid (HT8.out.no hsr9)
                    have HO9 := Lib.hid (own_row_sm H8.out.1 hsr9 (fun _ _ h => h))
                    clear hsr9 cx9 cx8 hsr hs9
                    rcases own_row_form HO9.out with ⟨hv0, hn0, _⟩ | ⟨b8, cap8, hv8', hob, hB8, hg8, hc8, _, _⟩
                    · have hz : ¬ (0 : Int) < (L'.length : Int) := by omega
                      clear hv0 hn0
                      go_wp2_with fail
                      go_loopw [16] (fun i wr' => CountRel w9 0 i wr') (fun i _ => 0 - (intOf i).toNat)
                      case atStart => exact ⟨0, Nat.le_refl _, rfl, Sm.refl _ _⟩
                      case round =>
                        obtain ⟨j, hj, rfl, hs10⟩ := hrel
                        obtain rfl : j = 0 := by omega
                        have HT10 := Lib.hid (HT9.out.no hs10)
                        clear hs10
                        go_wp2_with fail
                        exact ⟨⟨k + 1, _, _, L', by omega, by go_num, TW.out.2.2, TW.out.2.1, HT10.out⟩, by simp [intOf]; omega⟩
                    · injection hv8' with hv1 _ hv2
                      subst hv1
                      have HB8 := Lib.hid (show (wr.alloc (.cells #[.int .i64 kd, .string nm, .string ot, .slice la fl.length lc] 26)).heap.size ≤ b8 from hB8)
                      clear hv2 hob hB8 hc8
                      have hSp : SpoilRel (wr.alloc (.cells #[.int .i64 kd, .string nm, .string ot, .slice la fl.length lc] 26)) b8 c8 L'.length (.int .i64 0) w9 := ⟨0, _, Nat.zero_le _, rfl, HO9.out, (H8.out.2.1).trans H9.out (fun _ _ h => h)⟩
                      have HSp := Lib.hid hSp
                      clear hSp
                      go_wp2_with fail
                      go_loopw [16] (fun i wr' => SpoilRel (wr.alloc (.cells #[.int .i64 kd, .string nm, .string ot, .slice la fl.length lc] 26)) b8 c8 L'.length i wr') (fun i _ => L'.length - (intOf i).toNat)
                      case atStart => exact HSp.out
                      case round =>
                        obtain ⟨j, cs, hj, rfl, how, hs10⟩ := hrel
                        have HW10 := Lib.hid (And.intro how hs10)
                        clear hs10
                        by_cases hlt3 : j < L'.length
                        · obtain ⟨u, hu⟩ : ∃ u, cs[j * 2]? = some u := ⟨cs[j * 2]'(by rw [how.1]; omega), by simp⟩
                          have d0 := (World.ownsRow.cellAt how (j * 2) (by omega)).trans hu
                          have z0 := World.ownsRow.frozenAt how (j * 2)
                          have hst := (World.ownsRow.stored how (j * 2) (.string ⟨#[115, 112, 111, 105, 108, 116]⟩)).1
                          have hS11 := HW10.out.2.setN HB8.out (j * 2) (.string ⟨#[115, 112, 111, 105, 108, 116]⟩)
                          have H11 := Lib.hid (And.intro hst hS11)
                          have j1 : (0 : Int) ≤ (j : Int) := by omega
                          have j2 : (j : Int) < (L'.length : Int) := by omega
                          clear hst hS11 how hu
                          go_wp2_with fail
                          exact ⟨⟨j + 1, _, by omega, by go_num, H11.out.1, H11.out.2⟩, by simp [intOf]; omega⟩
                        · have HT10 := Lib.hid (TW.out.1.no HW10.out.2)
                          clear how
                          go_wp2_with fail
                          exact ⟨⟨k + 1, _, _, L', by omega, by go_num, TW.out.2.2, TW.out.2.1, HT10.out⟩, by simp [intOf]; omega⟩
        · by_cases hk3 : k < acts.length
          · as_aux_lemma =>
              have hk8 : ¬ (k : Int) < 80 := by omega
              clear hlt
              obtain ⟨Ax, cx, hvx, hRx⟩ := HR.out.2.x.row
              subst hvx
              have cx0 := HR.out.2.x.1.at 0 (v := .slice Ax L'.length cx) rfl
              have HRx := Lib.hid hRx
              have HL6 : L'.length ≤ 1000000 := by omega
              clear hRx
              go_wp2_with fail
              have hsr := Sm.refl No wr
              go_region_held3 (fun w' => w'.cell? ⟨w4.heap.size, 0, none⟩ = some (.slice Ax L'.length cx)) (first | assumption)
                (first
                  | (go_at_call 22; (with_reducible refine (all_any _ _ g v' L' (HR.out.2.f.no (by first | exact hsr.drew | exact hsr.drew.drew)) HL6).mono ?_); rintro e w8 ⟨v8, rfl, hO8, hs8⟩; obtain ⟨A8, c8, hv8, hR8⟩ := hO8.row; subst hv8; have hsr8 := (show Sm No wr _ from by first | exact hsr.drew | exact hsr.drew.drew).trans hs8 (fun _ _ h => h); have cx8 := hsr8.cell HR.out.2.x.1.lt cx0)
                  | (go_at_call 13; (with_reducible refine (fields_any _ A8 Ax c8 cx L' (hR8.no (by first | exact (Sm.refl No w8) | exact (Sm.refl No w8).drew | exact (Sm.refl No w8).drew.drew)) (HRx.out.no (by first | exact hsr8 | exact hsr8.drew | exact hsr8.drew.drew)) HL6).mono ?_); rintro e w9 ⟨rfl, hs9⟩; have hsr9 := (show Sm No wr _ from by first | exact hsr8 | exact hsr8.drew | exact hsr8.drew.drew).trans hs9 (fun _ _ h => h); have cx9 := hsr9.cell HR.out.2.x.1.lt cx0)
                  | (go_at_call 24; (with_reducible refine (known10_any _).mono ?_); rintro e w10 ⟨rfl, hs10⟩; have hsr10 := (show Sm No wr _ from by first | exact hsr9 | exact hsr9.drew | exact hsr9.drew.drew).trans hs10 (fun _ _ h => h); have cx10 := hsr10.cell HR.out.2.x.1.lt cx0))
              all_goals
                go_wp2_with fail
                go_ret
                exact ⟨rfl, (HS3.out.trans (HTsm.out.trans HR.out.2.sm (fun _ _ h => h)) (fun _ _ h => h)).trans hsr10 (fun _ _ h => h)⟩
          · as_aux_lemma =>
              clear hlt
              obtain ⟨Ax, cx, hvx, hRx⟩ := HR.out.2.x.row
              subst hvx
              have cx0 := HR.out.2.x.1.at 0 (v := .slice Ax L'.length cx) rfl
              have HRx := Lib.hid hRx
              have HL6 : L'.length ≤ 1000000 := by omega
              clear hRx
              go_wp2_with fail
              have hsr := Sm.refl No wr
              go_region_held3 (fun w' => w'.cell? ⟨w4.heap.size, 0, none⟩ = some (.slice Ax L'.length cx)) (first | assumption)
                (first
                  | (go_at_call 22; (with_reducible refine (all_any _ _ g v' L' (HR.out.2.f.no (by first | exact hsr.drew | exact hsr.drew.drew)) HL6).mono ?_); rintro e w8 ⟨v8, rfl, hO8, hs8⟩; obtain ⟨A8, c8, hv8, hR8⟩ := hO8.row; subst hv8; have hsr8 := (show Sm No wr _ from by first | exact hsr.drew | exact hsr.drew.drew).trans hs8 (fun _ _ h => h); have cx8 := hsr8.cell HR.out.2.x.1.lt cx0)
                  | (go_at_call 13; (with_reducible refine (fields_any _ A8 Ax c8 cx L' (hR8.no (by first | exact (Sm.refl No w8) | exact (Sm.refl No w8).drew | exact (Sm.refl No w8).drew.drew)) (HRx.out.no (by first | exact hsr8 | exact hsr8.drew | exact hsr8.drew.drew)) HL6).mono ?_); rintro e w9 ⟨rfl, hs9⟩; have hsr9 := (show Sm No wr _ from by first | exact hsr8 | exact hsr8.drew | exact hsr8.drew.drew).trans hs9 (fun _ _ h => h); have cx9 := hsr9.cell HR.out.2.x.1.lt cx0)
                  | (go_at_call 24; (with_reducible refine (known10_any _).mono ?_); rintro e w10 ⟨rfl, hs10⟩; have hsr10 := (show Sm No wr _ from by first | exact hsr9 | exact hsr9.drew | exact hsr9.drew.drew).trans hs10 (fun _ _ h => h); have cx10 := hsr10.cell HR.out.2.x.1.lt cx0))
              all_goals
                go_wp2_with fail
                go_ret
                exact ⟨rfl, (HS3.out.trans (HTsm.out.trans HR.out.2.sm (fun _ _ h => h)) (fun _ _ h => h)).trans hsr10 (fun _ _ h => h)⟩
    · clear hlight
      go_wp2_with fail
      go_ret
      exact ⟨rfl, HS3.out⟩
  · clear hlight
    go_wp2_with fail
    go_ret
    exact ⟨rfl, hs1⟩
end Go.Proofs.YtnopbhboamembaaDoor
