/- usherlaw10.known. -/
import Derived.Test.YtnopbhboamembaaDoorFieldG
namespace Go.Proofs.YtnopbhboamembaaDoor
open Go.RowKit Go.Proofs

def kHost : ByteArray := ⟨#[72, 111, 115, 116]⟩
def kA : ByteArray := ⟨#[97]⟩
def kHOST : ByteArray := ⟨#[104, 79, 83, 84]⟩
def kB : ByteArray := ⟨#[98]⟩
def kFlds : List Fld := [(kHost, kA), (kHOST, kB)]

theorem known_p1 (w : World) : Calls Tryd.prog 44 #[.string ⟨#[72, 111, 115, 116, 58, 32, 32, 97, 32]⟩] w fun e w' => e = .returned (.tuple #[.agg #[.string ⟨#[72, 111, 115, 116]⟩, .string ⟨#[97]⟩], .int .i64 0]) ∧ Sm No w w' := by
  have h := parse_any ⟨#[72, 111, 115, 116, 58, 32, 32, 97, 32]⟩ (by decide) w
  have e : parseV (parseL (⟨#[72, 111, 115, 116, 58, 32, 32, 97, 32]⟩ : ByteArray).data.toList) = .tuple #[.agg #[.string ⟨#[72, 111, 115, 116]⟩, .string ⟨#[97]⟩], .int .i64 0] := by kernel_rfl
  rw [e] at h
  exact h
theorem known_p2 (w : World) : Calls Tryd.prog 44 #[.string ⟨#[97, 32, 98, 58, 32, 99]⟩] w fun e w' => e = .returned (.tuple #[.agg #[.string ⟨#[]⟩, .string ⟨#[]⟩], .int .i64 8]) ∧ Sm No w w' := by
  have h := parse_any ⟨#[97, 32, 98, 58, 32, 99]⟩ (by decide) w
  have e : parseV (parseL (⟨#[97, 32, 98, 58, 32, 99]⟩ : ByteArray).data.toList) = .tuple #[.agg #[.string ⟨#[]⟩, .string ⟨#[]⟩], .int .i64 8] := by kernel_rfl
  rw [e] at h
  exact h
theorem known_add : addL [] kFlds = (kFlds, 2, 0) := by kernel_rfl
theorem known_get : getL kFlds ⟨#[104, 111, 115, 116]⟩ = [97, 44, 32, 98] := by kernel_rfl
theorem known_short : Short kFlds := by
  intro x hx
  simp only [kFlds, List.mem_cons, List.not_mem_nil, or_false] at hx
  rcases hx with rfl | rfl <;> exact ⟨by decide, by decide⟩

set_option maxHeartbeats 4000000 in
theorem known10_any (w : World) : Calls Tryd.prog 24 #[] w fun e w' => e = .returned (.bool true) ∧ Sm No w w' := by
  go_enter Tryd.func24, Tryd.ntmps24
  go_wp2_with fail
  refine (known_p1 _).mono ?_
  rintro e w1 ⟨rfl, hs1⟩
  go_wp2_with fail
  refine (known_p2 _).mono ?_
  rintro e w2 ⟨rfl, hs2⟩
  have hb2 := (Bk.new w1 47 #[.string ⟨#[72, 111, 115, 116]⟩, .string ⟨#[97]⟩]).sm hs2 (fun h => h)
  have hs3 := (hs1.alloc (.cells #[.string ⟨#[72, 111, 115, 116]⟩, .string ⟨#[97]⟩] 47)).trans hs2 (fun _ _ h => h)
  have c0 := hb2.at 0 (v := .string ⟨#[72, 111, 115, 116]⟩) rfl
  have c1 := hb2.at 1 (v := .string ⟨#[97]⟩) rfl
  have hz := hb2.lt
  have hb5 := (hb2.alloc (.cells #[.string ⟨#[]⟩, .string ⟨#[]⟩] 47)).alloc (.cells #[.string ⟨#[72, 111, 115, 116]⟩, .string ⟨#[97]⟩, .string ⟨#[104, 79, 83, 84]⟩, .string ⟨#[98]⟩] 47)
  have hbn := Bk.newAt (w2.alloc (.cells #[.string ⟨#[]⟩, .string ⟨#[]⟩] 47)) 47 #[.string ⟨#[72, 111, 115, 116]⟩, .string ⟨#[97]⟩, .string ⟨#[104, 79, 83, 84]⟩, .string ⟨#[98]⟩] (g := w2.heap.size + 1) (by simp)
  have hs5 := (hs3.alloc (.cells #[.string ⟨#[]⟩, .string ⟨#[]⟩] 47)).alloc (.cells #[.string ⟨#[72, 111, 115, 116]⟩, .string ⟨#[97]⟩, .string ⟨#[104, 79, 83, 84]⟩, .string ⟨#[98]⟩] 47)
  have HO := Lib.hid (fun (w0 : World) (hb : Bk w0 (w2.heap.size + 1) 47 #[.string ⟨#[72, 111, 115, 116]⟩, .string ⟨#[97]⟩, .string ⟨#[104, 79, 83, 84]⟩, .string ⟨#[98]⟩]) =>
    of_any w0 kFlds (some ⟨w2.heap.size + 1, 0, none⟩) 2 (fun k hk => by
      match k, hk with
      | 0, _ => exact ⟨_, 0, rfl, hb.lt, hb.at 0 rfl, hb.at 1 rfl⟩
      | 1, _ => exact ⟨_, 0, rfl, hb.lt, hb.at 2 rfl, hb.at 3 rfl⟩) known_short (by decide))
  have HBN := Lib.hid (And.intro hbn (And.intro hb5 hs5))
  clear hb5 hbn hs5
  go_wp2_with fail
  refine (HO.out _ HBN.out.1).mono ?_
  rintro e w3 ⟨g, v, rfl, hg, hF, hl, hs6⟩
  rw [known_add] at hF hl
  have hb6 := HBN.out.2.1.sm hs6 (fun h => h)
  have hs7 := HBN.out.2.2.trans hs6 (fun _ _ h => h)
  have d0 := hb6.at 0 (v := .string ⟨#[72, 111, 115, 116]⟩) rfl
  have d1 := hb6.at 1 (v := .string ⟨#[97]⟩) rfl
  have HG := Lib.hid (get_any w3 _ g v kFlds ⟨#[104, 111, 115, 116]⟩ hF hl known_short (by decide))
  have HS := Lib.hid hs7
  clear hF hl hs6 hs7 hb6 hs1 hs2 hs3 c0 c1 hg
  go_wp2_with fail
  refine HG.out.mono ?_
  rintro e w4 ⟨rfl, hs8⟩
  rw [known_get]
  go_wp2_with fail
  go_ret
  exact ⟨rfl, HS.out.trans hs8 (fun _ _ h => h)⟩
end Go.Proofs.YtnopbhboamembaaDoor
