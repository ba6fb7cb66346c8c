/- The walks of ListJoins, ListTokens. -/
import Derived.Test.YtppciofbaohpdaaDoorListL
namespace Go.Proofs.YtppciofbaohpdaaDoor
open Go.RowKit Go.Proofs

theorem OwnT.len {w : World} {B : Nat} {v : Value} {l : List (List UInt8)} (h : OwnT w B v l) : ∃ A c, v = .slice A l.length c := by
  obtain ⟨A, c, rfl, _⟩ := own_rowC h
  exact ⟨A, c, rfl⟩

/-- Two looks for the same tokens, and then texts. -/
def JoinRel (w : World) (vs : List ByteArray) (s i : Value) (wr : World) : Prop :=
  ∃ (k : Nat) (t : ByteArray), 1 ≤ k ∧ k ≤ vs.length ∧ i = .int .i64 k ∧ s = .string t ∧ commaL t.data.toList = (bytesL (vs.take k)).flatMap commaL ∧ t.size ≤ costL (vs.take k) ∧ Sm No w wr
theorem bytes_snoc {vs : List ByteArray} {k : Nat} (h : k < vs.length) : (bytesL (vs.take (k + 1))).flatMap commaL = (bytesL (vs.take k)).flatMap commaL ++ commaL vs[k].data.toList := by
  unfold bytesL
  rw [List.take_succ_eq_append_getElem h, List.map_append, List.flatMap_append]
  simp
theorem costL_take (vs : List ByteArray) (k : Nat) : costL (vs.take k) ≤ costL vs := by
  have : vs = vs.take k ++ vs.drop k := (List.take_append_drop k vs).symm
  have e : costL vs = costL (vs.take k) + costL (vs.drop k) := by
    conv => lhs; rw [this]
    unfold costL
    rw [List.map_append, List.sum_append]
  omega
theorem toList_append' (a b : ByteArray) : (a ++ b).data.toList = a.data.toList ++ b.data.toList := by simp

set_option maxRecDepth 100000 in
set_option maxHeartbeats 8000000 in
theorem joins_any (A : Option Addr) (vs : List ByteArray) (c : Nat) (w : World) (hA : ArgS w A vs c) (hg : G0 w) :
    Calls Tryd.prog 6 #[.slice A vs.length c] w fun e w' => e = .returned (.bool true) ∧ Sm No w w' := by
  have HH := Lib.hid (heavy9_any w A c vs hA)
  have HA := Lib.hid (And.intro hA.1 hg)
  have hvl : vs.length ≤ 8796093022208 := by have := hA.2.1; have := hA.2.2.1; omega
  clear hA hg
  go_enter Tryd.func6, Tryd.ntmps6
  go_wp2_with fail
  refine HH.out.mono ?_
  rintro e w1 ⟨b, rfl, hs1, hlight⟩
  cases b
  · by_cases hv0 : vs.length = 0
    · have hv0' : (((vs.length : Nat) : Int) == 0) = true := by rw [hv0]; rfl
      clear hlight
      go_wp2_with fail
      go_ret
      exact ⟨rfl, hs1⟩
    · have hv0' : (((vs.length : Nat) : Int) == 0) = false := by simpa using hv0
      have hz : 0 < vs.length := by omega
      have HL := Lib.hid (And.intro (hlight rfl) hs1)
      obtain ⟨bb, off, hAe, hbb, r0⟩ := (HA.out.1.no hs1) 0 hz
      subst hAe
      have x0 := (hlight rfl).size _ (List.getElem_mem hz)
      obtain ⟨y, hy⟩ : ∃ y, vs[0] = y := ⟨_, rfl⟩
      rw [hy] at r0 x0
      rw [Nat.add_zero] at r0
      have hRel : JoinRel w1 vs (.string y) (.int .i64 1) w1 := by
        refine ⟨1, y, Nat.le_refl _, hz, rfl, rfl, ?_, ?_, Sm.refl _ _⟩
        · rw [bytes_snoc hz, hy]; rfl
        · rw [costL_snoc vs 0 hz, hy]; omega
      have HRel := Lib.hid hRel
      clear hlight hs1 hRel hy
      go_wp2_with fail
      go_loopw [3, 4] (fun s i wr => JoinRel w1 vs s i wr) (fun _ i _ => vs.length - (intOf i).toNat)
      case atStart => exact HRel.out
      case round =>
        obtain ⟨k, t, hk1, hk, rfl, rfl, hc, hts, hs⟩ := hrel
        have HS := Lib.hid (And.intro hc (And.intro hs (HL.out.2.trans hs (fun _ _ h => h))))
        have hcost := costL_take vs k
        have hrest := HL.out.1.cost
        by_cases hlt : k < vs.length
        · obtain ⟨b2, o2, hA2, hb2, r2⟩ := (HA.out.1.no HS.out.2.2) k hlt
          injection hA2 with hA2
          injection hA2 with hA3 hA4
          subst hA3 hA4
          have x2 := HL.out.1.size _ (List.getElem_mem hlt)
          have hsn := costL_snoc vs k hlt
          have hbs := bytes_snoc hlt
          obtain ⟨y2, hy2⟩ : ∃ y, vs[k] = y := ⟨_, rfl⟩
          rw [hy2] at r2 x2 hsn hbs
          have hR2 : JoinRel w1 vs (.string (t ++ (⟨#[44]⟩ : ByteArray) ++ y2)) (.int .i64 ((k + 1 : Nat) : Int)) wr := by
            refine ⟨k + 1, _, by omega, hlt, rfl, rfl, ?_, ?_, hs⟩
            · rw [hbs, ← hc, toList_append', toList_append', List.append_assoc]
              exact commaL_join _ _
            · rw [hsn]
              have : (t ++ (⟨#[44]⟩ : ByteArray) ++ y2).size = t.size + 1 + y2.size := by simp [ByteArray.size_append]; rfl
              omega
          have HR2 := Lib.hid hR2
          have k1 : (0 : Int) ≤ (k : Int) := by omega
          have k2 : (k : Int) < (vs.length : Int) := by omega
          have ht1 : t.size + 1 ≤ 9000 := by omega
          have ht2 : t.size + 1 + y2.size ≤ 9000 := by omega
          clear hy2 hsn hbs hc hs hR2
          go_wp2_with fail
          exact ⟨HR2.out, by simp [intOf]; omega⟩
        · have ha : vs.take k = vs := List.take_of_length_le (by omega)
          rw [ha] at hc hts
          have hT1 : tokensL (bytesL vs) = tokensL (bytesL [t]) := by
            unfold tokensL
            rw [← hc]
            simp [bytesL]
          have hs3 := (Sm.refl No wr).alloc (.cells #[.string t] 9)
          have hL1 : (restL [t] 0).length ≤ 1000000 := by
            have := commaL_many t.data.toList
            rw [← size_toList'] at this
            simp [restL, bytesL]
            omega
          have ht9 : t.size ≤ 900000 := by omega
          have HT := Lib.hid (And.intro hT1 hL1)
          clear ha hc hs hs3 hT1 hL1
          go_wp2_with fail
          refine (HL.out.1.tokens wr _ c (HA.out.2.no HS.out.2.2) (HA.out.1.no HS.out.2.2)).mono ?_
          rintro e w2 hcase
          obtain ⟨v1, b1, T1, hc1⟩ : ∃ v1 b1 r, e = .returned (.tuple #[v1, .bool b1]) ∧ OwnT w2 wr.heap.size v1 r ∧ Sm No wr w2 ∧ (tokensL (bytesL vs) = if b1 = true then some r else none) ∧ (b1 = false → r = []) := by
            rcases hcase with ⟨r, v, hr, he, hO, hs⟩ | ⟨hr, he, hs⟩
            · exact ⟨v, true, r, he, hO, hs, by rw [hr]; rfl, fun h => by cases h⟩
            · exact ⟨_, false, [], he, World.ownsRow_nil _ _ _ 1, hs, by rw [hr]; rfl, fun _ => rfl⟩
          obtain ⟨rfl, hO1, hsA, hTA, hTB⟩ := hc1
          obtain ⟨A1, c1, rfl, hRA, _⟩ := hO1.row
          have H1 := Lib.hid (And.intro hRA (And.intro hTA (And.intro hTB (HS.out.2.2.trans hsA (fun _ _ h => h)))))
          clear hcase hO1 hsA hTA hTB hRA
          have hb3 := Bk.new w2 9 #[.string t]
          have hs3 := (Sm.refl No w2).alloc (.cells #[.string t] 9)
          have HTok := Lib.hid (tokens_any (w2.alloc (.cells #[.string t] 9)) (some ⟨w2.heap.size, 0, none⟩) 1 [t] ((HA.out.2.no H1.out.2.2.2).no hs3) (fun j hj => by
            obtain rfl : j = 0 := by simpa using hj
            exact ⟨_, 0, rfl, hb3.lt, hb3.at 0 rfl⟩) (by simp) (fun s hs => by obtain rfl := List.mem_singleton.1 hs; exact ht9) HT.out.2)
          have H3 := Lib.hid (And.intro (H1.out.1.no hs3) (H1.out.2.2.2.trans hs3 (fun _ _ h => h)))
          clear hb3 hs3
          go_wp2_with fail
          refine HTok.out.mono ?_
          rintro e w4 hcase
          obtain ⟨v2, b2, T2, hc2⟩ : ∃ v1 b1 r, e = .returned (.tuple #[v1, .bool b1]) ∧ OwnT w4 (w2.alloc (.cells #[.string t] 9)).heap.size v1 r ∧ Sm No (w2.alloc (.cells #[.string t] 9)) w4 ∧ (tokensL (bytesL [t]) = if b1 = true then some r else none) ∧ (b1 = false → r = []) := by
            rcases hcase with ⟨r, v, hr, he, hO, hs⟩ | ⟨hr, he, hs⟩
            · exact ⟨v, true, r, he, hO, hs, by rw [hr]; rfl, fun h => by cases h⟩
            · exact ⟨_, false, [], he, World.ownsRow_nil _ _ _ 1, hs, by rw [hr]; rfl, fun _ => rfl⟩
          obtain ⟨rfl, hO2, hsB, hTC, hTD⟩ := hc2
          obtain ⟨A2, c2, rfl, hRB, _⟩ := hO2.row
          have hsame : b1 = b2 ∧ T1 = T2 := by
            have h1 := H1.out.2.1
            rw [HT.out.1, hTC] at h1
            cases b1 <;> cases b2 <;> simp at h1 hTD
            · exact ⟨rfl, by rw [H1.out.2.2.1 rfl, hTD]⟩
            · exact ⟨rfl, h1.symm⟩
          obtain ⟨rfl, rfl⟩ := hsame
          have hrl : T1.length ≤ 3000 := by
            have h1 := H1.out.2.1
            cases b1
            · rw [H1.out.2.2.1 rfl]; simp
            · exact HL.out.1.many h1
          have HX := Lib.hid (texts9_any w4 A1 A2 c1 c2 T1 (H3.out.1.no hsB) hRB (by omega))
          have H4 := Lib.hid (H3.out.2.trans hsB (fun _ _ h => h))
          clear hcase hO2 hsB hTC hTD hRB
          go_wp2_with fail
          refine HX.out.mono ?_
          rintro e w5 ⟨rfl, hs5⟩
          have H5 := Lib.hid (H4.out.trans hs5 (fun _ _ h => h))
          clear hs5
          go_wp2_with fail
          refine (known9_any _ (HA.out.2.no H5.out)).mono ?_
          rintro e w6 ⟨rfl, hs6⟩
          go_wp2_with fail
          go_ret
          exact ⟨rfl, H5.out.trans hs6 (fun _ _ h => h)⟩
  · clear hlight
    go_wp2_with fail
    go_ret
    exact ⟨rfl, hs1⟩
end Go.Proofs.YtppciofbaohpdaaDoor
