/- The walk of FieldParses. -/
import Derived.Test.YtppciofbaohpdaaDoorFieldH
namespace Go.Proofs.YtppciofbaohpdaaDoor
open Go.RowKit Go.Proofs

set_option maxHeartbeats 4000000 in
theorem parses_any (s : ByteArray) (hs : s.size ≤ 9223372036854775807) (w : World) : Calls Tryd.prog 3 #[.string s] w fun e w' => e = .returned (.bool true) ∧ Sm No w w' := by
  by_cases h1 : 5000 < s.size
  · go_enter Tryd.func3, Tryd.ntmps3
    go_wp2_with fail
    go_ret
    exact ⟨rfl, Sm.refl _ _⟩
  · obtain ⟨nb, vb, c, hp⟩ : ∃ nb vb c, parseV (parseL s.data.toList) = .tuple #[.agg #[.string nb, .string vb], .int .i64 c] := ⟨_, _, _, rfl⟩
    have HA := Lib.hid (fun w => hp ▸ parse_any s (by omega) w)
    have HB := Lib.hid (fun w => hp ▸ rParse_any s (by omega) w)
    clear hp
    go_enter Tryd.func3, Tryd.ntmps3
    go_wp2_with fail
    refine (HA.out _).mono ?_
    rintro e w1 ⟨rfl, hs1⟩
    go_wp2_with fail
    refine (HB.out _).mono ?_
    rintro e w2 ⟨rfl, hs2⟩
    have hb2 := (Bk.new w1 23 #[.string nb, .string vb]).sm hs2 (fun h => h)
    have hs3 := (hs1.alloc (.cells #[.string nb, .string vb] 23)).trans hs2 (fun _ _ h => h)
    have c0 := hb2.at 0 (v := .string nb) rfl
    have c1 := hb2.at 1 (v := .string vb) rfl
    have hz := hb2.lt
    have HS := Lib.hid hs3
    clear hs1 hs2 hs3 hb2
    go_wp2_with fail
    refine (known10_any _).mono ?_
    rintro e w3 ⟨rfl, hs4⟩
    go_wp2_with fail
    go_ret
    exact ⟨rfl, (HS.out.alloc _).trans hs4 (fun _ _ h => h)⟩
end Go.Proofs.YtppciofbaohpdaaDoor
