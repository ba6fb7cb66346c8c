/- A line as a field: field.Parse. -/
import Derived.Test.YtnopbhboamembaaDoorFieldA
import Derived.Test.YtnopbhboamembaaDoorCut
namespace Go.Proofs.YtnopbhboamembaaDoor
open Go.RowKit Go.Proofs

/-- What a line is: how it was refused (0: it was not), name, value. -/
def parseL (l : List UInt8) : Int × List UInt8 × List UInt8 :=
  if 256 < l.length then (9, [], [])
  else if Lib.indexByte l 58 = -1 then (8, [], [])
  else if isF (l.take (Lib.indexByte l 58).toNat) (trimL (l.drop ((Lib.indexByte l 58).toNat + 1))) = true then (0, l.take (Lib.indexByte l 58).toNat, trimL (l.drop ((Lib.indexByte l 58).toNat + 1)))
  else (8, [], [])

def fieldV (n v : List UInt8) : Value := .agg #[.string ⟨n.toArray⟩, .string ⟨v.toArray⟩]
def parseV (p : Int × List UInt8 × List UInt8) : Value := .tuple #[fieldV p.2.1 p.2.2, .int .i64 p.1]

theorem index_lt (l : List UInt8) (c : UInt8) (i : Nat) (h : Lib.indexByte l c = i) : i < l.length := by
  have := (Lib.indexByte_some h).1
  exact (List.getElem?_eq_some_iff.mp this).1
theorem index_cases (l : List UInt8) (c : UInt8) : Lib.indexByte l c = -1 ∨ ∃ i : Nat, Lib.indexByte l c = i := by
  have := Lib.indexByte_ge l c
  by_cases h : Lib.indexByte l c = -1
  · exact Or.inl h
  · exact Or.inr ⟨(Lib.indexByte l c).toNat, by omega⟩
theorem isOne_say {n v : ByteArray} {r : Bool} (h : Hid (isF n.data.toList v.data.toList = r)) (hn : n.size ≤ 1000000) (hv : v.size ≤ 1000000) (w : World) :
    Calls Tryd.prog 35 #[.agg #[.string n, .string v]] w fun e w' => e = .returned (.bool r) ∧ Sm No w w' := by
  rw [← h.out]; exact isOne_any n v hn hv w
theorem dropR_le (l : List UInt8) : (dropR l).length ≤ l.length := by
  unfold dropR
  have := (List.dropWhile_sublist blB (l := l.reverse)).length_le
  simpa using this
theorem trimL_le (l : List UInt8) : (trimL l).length ≤ l.length := by
  rw [trimL_eq]
  exact Nat.le_trans (dropR_le _) ((List.dropWhile_sublist blB (l := l)).length_le)

set_option maxHeartbeats 2000000 in
theorem parse_any (s : ByteArray) (hs : s.size ≤ 1000000) (w : World) :
    Calls Tryd.prog 44 #[.string s] w fun e w' => e = .returned (parseV (parseL s.data.toList)) ∧ Sm No w w' := by
  have hlen : s.data.toList.length = s.size := by simp
  by_cases h1 : 256 < s.size
  · have hp : parseL s.data.toList = (9, [], []) := by unfold parseL; rw [if_pos (by omega)]
    rw [hp]
    clear hp hlen
    unfold parseV fieldV
    go_enter Tryd.func44, Tryd.ntmps44
    go_wp2_with fail
    exact bodyPost_ret (v := .tuple #[.agg #[.string ⟨#[]⟩, .string ⟨#[]⟩], .int .i64 9]) (by simp [results, Tryd.results44, go_sem]) rfl ⟨rfl, (Sm.refl No w).alloc _⟩
  · rcases index_cases s.data.toList 58 with h2 | ⟨i, h2⟩
    · have hp : parseL s.data.toList = (8, [], []) := by unfold parseL; rw [if_neg (by omega), if_pos h2]
      have H2 := Lib.hid h2
      rw [hp]
      clear hp hlen h2
      unfold parseV fieldV
      go_enter Tryd.func44, Tryd.ntmps44
      go_wp2_with fail
      refine (cut_none s 58 _ H2).mono ?_
      rintro e w1 ⟨rfl, rfl⟩
      go_wp2_with fail
      refine (trim_any _ (by decide) _).mono ?_
      rintro e w1 ⟨rfl, hs1⟩
      have hb1 := (Bk.new w 47 #[.string ⟨#[]⟩, .string ⟨#[]⟩]).sm hs1 (fun h => h)
      have c0 := hb1.at 0 (v := .string ⟨#[]⟩) rfl
      have c1 := hb1.at 1 (v := .string ⟨#[]⟩) rfl
      have z0 := hb1.fz 0
      have z1 := hb1.fz 1
      have hz := hb1.lt
      go_wp2_with fail
      exact bodyPost_ret (v := .tuple #[.agg #[.string ⟨#[]⟩, .string ⟨#[]⟩], .int .i64 8]) (by simp [results, Tryd.results44, go_sem, c0, c1, hz]) rfl
        ⟨rfl, (((((Sm.refl No w).alloc _).trans hs1 (fun _ _ h => h)).setN (Nat.le_refl _) _ _).setN (Nat.le_refl _) _ _).alloc _⟩
    · have hi := index_lt _ _ _ h2
      have hp : parseL s.data.toList = if isF (s.data.toList.take i) (trimL (s.data.toList.drop (i + 1))) = true then (0, s.data.toList.take i, trimL (s.data.toList.drop (i + 1))) else (8, [], []) := by
        unfold parseL; rw [if_neg (by omega), if_neg (by omega), h2]; rfl
      have hA : (s.extract 0 i).data.toList = s.data.toList.take i := by rw [Lib.extract_data]; simp
      have hB : (s.extract (i + 1) s.size).data.toList = s.data.toList.drop (i + 1) := by rw [Lib.extract_data, List.take_of_length_le (by simp)]
      rw [hp, ← hA, ← hB]
      have hr := trimL_le (s.extract (i + 1) s.size).data.toList
      have hR : (⟨(trimL (s.extract (i + 1) s.size).data.toList).toArray⟩ : ByteArray).data.toList = trimL (s.extract (i + 1) s.size).data.toList := rfl
      have hrs : (⟨(trimL (s.extract (i + 1) s.size).data.toList).toArray⟩ : ByteArray).size ≤ 1000000 := by
        show (trimL (s.extract (i + 1) s.size).data.toList).toArray.size ≤ 1000000
        rw [hB] at hr
        simp only [List.size_toArray, hB]
        simp at hr; omega
      have hbs : (s.extract 0 i).size ≤ 1000000 := by simp; omega
      have HT := trim_any (s.extract (i + 1) s.size) (by simp; omega)
      obtain ⟨r, hr'⟩ : ∃ r, (⟨(trimL (s.extract (i + 1) s.size).data.toList).toArray⟩ : ByteArray) = r := ⟨_, rfl⟩
      rw [hr'] at hR hrs HT
      rw [← hR]
      have H2 := Lib.hid h2
      rw [hlen] at hi
      have hC := fun w => cut_some s 58 w i hi hs H2
      generalize s.extract 0 i = a at hC hbs ⊢
      generalize s.extract (i + 1) s.size = b at hC HT
      clear hp hlen h2 hA hB hr hR hr'
      have HT' := Lib.hid HT
      have HC' := Lib.hid hC
      clear HT hC
      cases hf : isF a.data.toList r.data.toList
      · have HF := Lib.hid hf
        clear hf
        go_enter Tryd.func44, Tryd.ntmps44
        go_wp2_with fail
        refine (HC'.out _).mono ?_
        rintro e w1 ⟨rfl, n, rfl⟩
        have hs0 := ((Sm.refl No w).alloc (.cells #[.string ⟨#[]⟩, .string ⟨#[]⟩] 47)).drewN n
        have hb0 := (Bk.new w 47 #[.string ⟨#[]⟩, .string ⟨#[]⟩]).drewN n
        generalize (w.alloc (.cells #[.string ⟨#[]⟩, .string ⟨#[]⟩] 47)).drewN n = w1 at hs0 hb0 ⊢
        go_wp2_with fail
        refine (HT'.out _).mono ?_
        rintro e w2 ⟨rfl, hs2⟩
        have hb2 := hb0.sm hs2 (fun h => h)
        have hs3 := hs0.trans hs2 (fun _ _ h => h)
        have hz2 := hb2.lt
        go_wp2_with fail
        refine (isOne_say HF hbs hrs _).mono ?_
        rintro e w3 ⟨rfl, hs4⟩
        have hb3 := (hb2.alloc _).sm hs4 (fun h => h)
        have hs5 := (hs3.alloc _).trans hs4 (fun _ _ h => h)
        have c0 := hb3.at 0 (v := .string ⟨#[]⟩) rfl
        have c1 := hb3.at 1 (v := .string ⟨#[]⟩) rfl
        have z0 := hb3.fz 0
        have z1 := hb3.fz 1
        go_wp2_with fail
        exact bodyPost_ret (v := .tuple #[.agg #[.string ⟨#[]⟩, .string ⟨#[]⟩], .int .i64 8]) (by simp [results, Tryd.results44, go_sem, c0, c1]) rfl
          ⟨rfl, ((hs5).setN (Nat.le_refl _) _ _).setN (Nat.le_refl _) _ _⟩
      · have HF := Lib.hid hf
        clear hf
        go_enter Tryd.func44, Tryd.ntmps44
        go_wp2_with fail
        refine (HC'.out _).mono ?_
        rintro e w1 ⟨rfl, n, rfl⟩
        have hs0 := ((Sm.refl No w).alloc (.cells #[.string ⟨#[]⟩, .string ⟨#[]⟩] 47)).drewN n
        have hb0 := (Bk.new w 47 #[.string ⟨#[]⟩, .string ⟨#[]⟩]).drewN n
        generalize (w.alloc (.cells #[.string ⟨#[]⟩, .string ⟨#[]⟩] 47)).drewN n = w1 at hs0 hb0 ⊢
        go_wp2_with fail
        refine (HT'.out _).mono ?_
        rintro e w2 ⟨rfl, hs2⟩
        have hb2 := hb0.sm hs2 (fun h => h)
        have hs3 := hs0.trans hs2 (fun _ _ h => h)
        have hz2 := hb2.lt
        go_wp2_with fail
        refine (isOne_say HF hbs hrs _).mono ?_
        rintro e w3 ⟨rfl, hs4⟩
        have hb3 := (hb2.alloc _).sm hs4 (fun h => h)
        have hb4 := (Bk.new w2 47 #[.string a, .string r]).sm hs4 (fun h => h)
        have hs5 := (hs3.alloc _).trans hs4 (fun _ _ h => h)
        have c0 := hb3.at 0 (v := .string ⟨#[]⟩) rfl
        have c1 := hb3.at 1 (v := .string ⟨#[]⟩) rfl
        have z0 := hb3.fz 0
        have z1 := hb3.fz 1
        have d0 := hb4.at 0 (v := .string a) rfl
        have d1 := hb4.at 1 (v := .string r) rfl
        have e0 : a = ⟨a.data.toList.toArray⟩ := rfl
        go_wp2_with fail
        exact bodyPost_ret (v := .tuple #[.agg #[.string a, .string r], .int .i64 0]) (by simp [results, Tryd.results44, go_sem, c0, c1]) rfl
          ⟨rfl, ((hs5).setN (Nat.le_refl _) _ _).setN (Nat.le_refl _) _ _⟩
end Go.Proofs.YtnopbhboamembaaDoor
