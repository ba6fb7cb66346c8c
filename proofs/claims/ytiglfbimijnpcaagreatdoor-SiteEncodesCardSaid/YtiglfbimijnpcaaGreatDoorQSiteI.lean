/- The laws of site: their helpers. -/
import Derived.Test.YtiglfbimijnpcaaGreatDoorQOpenE
import Derived.Test.YtiglfbimijnpcaaGreatDoorQD
namespace Go.Proofs.YtiglfbimijnpcaaGreatDoor
open Go.RowKit Go.Proofs

set_option maxHeartbeats 2000000 in
theorem ints20_any (w : World) (A B : Option Addr) (c d : Nat) (l : List Nat) (hA : RowC w A (intsV l)) (hB : RowC w B (intsV l)) (hl : l.length ≤ 1000000) :
    Calls Tryz.prog 32 #[.slice A l.length c, .slice B l.length d] w fun e w' => e = .returned (.bool true) ∧ Sm No w w' := by
  have HA := Lib.hid (And.intro hA hB)
  clear hA hB
  go_enter Tryz.func32, Tryz.ntmps32
  go_wp2_with fail
  go_loopw [5] (fun i wr => CountRel w l.length i wr) (fun i _ => l.length - (intOf i).toNat)
  case atStart => exact ⟨0, Nat.zero_le _, rfl, Sm.refl _ _⟩
  case round =>
    obtain ⟨k, hk, rfl, hs⟩ := hrel
    have HS := Lib.hid hs
    clear hs
    by_cases hlt : k < l.length
    · have e1 : (intsV l)[k]? = some (.int .i64 (l[k] : Int)) := by simp [intsV, hlt]
      obtain ⟨b1, o1, hA1, hb1, r0⟩ := (HA.out.1.no HS.out).at e1
      obtain ⟨b2, o2, hA2, hb2, r1⟩ := (HA.out.2.no HS.out).at e1
      subst hA1 hA2
      obtain ⟨nm, hnm⟩ : ∃ x, (l[k] : Int) = x := ⟨_, rfl⟩
      rw [hnm] at r0 r1
      have k1 : (0 : Int) ≤ (k : Int) := by omega
      have k2 : (k : Int) < (l.length : Int) := by omega
      clear hnm e1
      go_wp2_with fail
      go_quiet (fail)
      go_wp2_with fail
      exact ⟨⟨k + 1, by omega, by go_num, HS.out.drewN _⟩, by simp [intOf]; omega⟩
    · go_wp2_with fail
      go_ret
      exact ⟨rfl, HS.out⟩
set_option maxHeartbeats 2000000 in
theorem fields20_any (w : World) (A B : Option Addr) (c d : Nat) (l : List Fld) (hA : FRow w A l) (hB : FRow w B l) (hl : l.length ≤ 1000000) :
    Calls Tryz.prog 19 #[.slice A l.length c, .slice B l.length d] w fun e w' => e = .returned (.bool true) ∧ Sm No w w' := by
  have HA := Lib.hid (And.intro hA hB)
  clear hA hB
  go_enter Tryz.func19, Tryz.ntmps19
  go_wp2_with fail
  go_loopw [5] (fun i wr => CountRel w l.length i wr) (fun i _ => l.length - (intOf i).toNat)
  case atStart => exact ⟨0, Nat.zero_le _, rfl, Sm.refl _ _⟩
  case round =>
    obtain ⟨k, hk, rfl, hs⟩ := hrel
    have HS := Lib.hid hs
    clear hs
    by_cases hlt : k < l.length
    · obtain ⟨b1, o1, hA1, hb1, r0, r1⟩ := (HA.out.1.no HS.out) k hlt
      obtain ⟨b2, o2, hA2, hb2, r2, r3⟩ := (HA.out.2.no HS.out) k hlt
      subst hA1 hA2
      obtain ⟨nm, hnm⟩ : ∃ x, l[k].1 = x := ⟨_, rfl⟩
      obtain ⟨vl, hvl⟩ : ∃ x, l[k].2 = x := ⟨_, rfl⟩
      rw [hnm] at r0 r2
      rw [hvl] at r1 r3
      clear hnm hvl
      have k1 : (0 : Int) ≤ (k : Int) := by omega
      have k2 : (k : Int) < (l.length : Int) := by omega
      go_wp2_with fail
      go_quiet (fail)
      go_wp2_with fail
      exact ⟨⟨k + 1, by omega, by go_num, HS.out.drewN _⟩, by simp [intOf]; omega⟩
    · go_wp2_with fail
      go_ret
      exact ⟨rfl, HS.out⟩
/-- A response as cells of a value: its rows, wherever they lie. -/
def RspC (w : World) (v : Value) (r : Rsp) : Prop :=
  ∃ A1 c1 A2 c2 A3 c3, v = .agg #[.int .i64 r.st, .slice A1 r.fs.length c1, .slice A2 r.body.length c2, .slice A3 r.parts.length c3] ∧ FRow w A1 r.fs ∧ RowC w A2 (byteV r.body) ∧ RowC w A3 (intsV r.parts)
theorem RspV.rc {w : World} {B : Nat} {v : Value} {r : Rsp} (h : RspV w B v r) : RspC w v r := by
  obtain ⟨vF, vB, vP, rfl, h1, h2, h3⟩ := h
  obtain ⟨A1, c1, rfl, h1, _⟩ := h1.row
  obtain ⟨A2, c2, rfl, h2, _⟩ := h2.row
  obtain ⟨A3, c3, rfl, h3, _⟩ := h3.row
  exact ⟨A1, c1, A2, c2, A3, c3, rfl, h1.frow, h2, h3⟩
theorem RspC.no {w w' : World} {v : Value} {r : Rsp} (h : RspC w v r) (hs : Sm No w w') : RspC w' v r := by
  obtain ⟨A1, c1, A2, c2, A3, c3, h0, h1, h2, h3⟩ := h
  exact ⟨A1, c1, A2, c2, A3, c3, h0, h1.no hs, h2.no hs, h3.no hs⟩
/-- What is light enough to be looked at. -/
def LightE (x : Ent) : Prop := x.path.size ≤ 5000 ∧ x.type.size ≤ 5000 ∧ x.data.size ≤ 5000
def Light20 (T : List Ent) (q : Rq) : Prop := q.body.length ≤ 5000 ∧ q.m.size + q.path.size + q.query.size ≤ 5000 ∧ T.length ≤ 1000 ∧ (∀ x ∈ T, LightE x) ∧ q.fs.length ≤ 1000 ∧ ∀ x ∈ q.fs, x.1.size ≤ 5000 ∧ x.2.size ≤ 5000
def HeavyPost20 (w : World) (T : List Ent) (q : Rq) (e : Ending) (w' : World) : Prop := ∃ b, e = .returned (.bool b) ∧ Sm No w w' ∧ (b = false → Light20 T q)
def HvR1 (w : World) (T : List Ent) (n i : Value) (wr : World) : Prop := ∃ k m : Nat, k ≤ T.length ∧ m ≤ 5000 ∧ 5 * k ≤ m ∧ n = .int .i64 m ∧ i = .int .i64 k ∧ (∀ x ∈ T.take k, LightE x) ∧ Sm No w wr
def HvR2 (w : World) (l : List Fld) (n i : Value) (wr : World) : Prop := ∃ k m : Nat, k ≤ l.length ∧ m ≤ 5000 ∧ 5 * k ≤ m ∧ n = .int .i64 m ∧ i = .int .i64 k ∧ (∀ x ∈ l.take k, x.1.size ≤ 5000 ∧ x.2.size ≤ 5000) ∧ Sm No w wr
theorem take_anyF {l : List Fld} {p : Fld → Prop} {k : Nat} {x : Fld} (h : ∀ y ∈ l.take k, p y) (hk : l[k]? = some x) (hp : p x) : ∀ y ∈ l.take (k + 1), p y := by
  intro y hy
  obtain ⟨hlt, e⟩ := List.getElem?_eq_some_iff.1 hk
  rw [List.take_add_one, hk] at hy
  rcases List.mem_append.1 hy with hy | hy
  · exact h y hy
  · have : y = x := by simpa using hy
    rw [this]; exact hp
set_option maxRecDepth 100000 in
set_option maxHeartbeats 8000000 in
theorem heavy20_any (w : World) (At : Option Addr) (ct : Nat) (T : List Ent) (hT : ArgE w At T ct) (q : Rq) (A : Option Addr) (c : Nat) (B : Option Addr) (d : Nat) (hq : ArgR w q A c B d) :
    Calls Tryz.prog 8 #[.slice At T.length ct, reqV q A c B d] w (HeavyPost20 w T q) := by
  obtain ⟨m, form, host, path, query, minor, fs, body, close, expect⟩ := q
  unfold reqV
  obtain ⟨hF, hB, z1, z2, z3, z4, _, _⟩ := hq
  dsimp only at hF hB z1 z2 z3 z4 ⊢
  have hfl : (fs.length : Int) ≤ 4398046511104 := by have := hF.2.1; have := hF.2.2.1; omega
  have hbl : (body.length : Int) ≤ 140737488351232 := by have := hB.2.1; have := hB.2.2.1; omega
  have htl : (T.length : Int) ≤ 4398046511104 := by have := hT.2.1; have := hT.2.2.1; omega
  have HT := Lib.hid hT
  have HF := Lib.hid hF
  clear hT hF hB
  go_enter Tryz.func8, Tryz.ntmps8
  by_cases hb5 : body.length ≤ 5000
  · by_cases hm5 : m.size + path.size + query.size ≤ 5000
    · go_wp2_with fail
      obtain ⟨w1, hw1⟩ : ∃ w1, w.alloc (.cells #[.string m, .int .i64 form, .string host, .string path, .string query, .int .i64 minor, .slice A fs.length c, .slice B body.length d, .bool close, .bool expect] 29) = w1 := ⟨_, rfl⟩
      have hbq : Bk w1 w.heap.size 29 #[.string m, .int .i64 form, .string host, .string path, .string query, .int .i64 minor, .slice A fs.length c, .slice B body.length d, .bool close, .bool expect] := by rw [← hw1]; exact Bk.new w _ _
      have hs1 : Sm No w w1 := by rw [← hw1]; exact (Sm.refl No w).alloc _
      rw [hw1]
      have H1 := Lib.hid (And.intro hs1 hbq)
      clear hw1 hs1 hbq
      go_loopw [5, 6] (fun n i wr => HvR1 w1 T n i wr) (fun _ i _ => T.length - (intOf i).toNat)
      case atStart => exact ⟨0, body.length, Nat.zero_le _, hb5, by omega, rfl, rfl, by simp, Sm.refl _ _⟩
      case round =>
        obtain ⟨k, mm, hk, hm, hkm, rfl, rfl, hall, hs⟩ := hrel
        have HS := Lib.hid (And.intro (H1.out.1.trans hs (fun _ _ h => h)) (And.intro (H1.out.2.sm hs (fun h => h)) (And.intro hs hall)))
        clear hs hall
        by_cases hlt : k < T.length
        · obtain ⟨x, hx⟩ : ∃ x, T[k]? = some x := ⟨_, List.getElem?_eq_getElem hlt⟩
          obtain ⟨t1, t2, t3⟩ := entCells_at hx
          obtain ⟨bb, off, hAe, hbb, r0⟩ := (HT.out.1.no HS.out.1).at t1
          subst hAe
          obtain ⟨_, _, hA1, _, r1⟩ := (HT.out.1.no HS.out.1).at t2
          injection hA1 with hA1; injection hA1 with e1 e2; subst e1 e2
          obtain ⟨_, _, hA1, _, r2⟩ := (HT.out.1.no HS.out.1).at t3
          injection hA1 with hA1; injection hA1 with e1 e2; subst e1 e2
          rw [show off + (k * 3 + 1) = off + k * 3 + 1 by omega] at r1
          rw [show off + (k * 3 + 2) = off + k * 3 + 2 by omega] at r2
          have k1 : (0 : Int) ≤ (k : Int) := by omega
          have k2 : (k : Int) < (T.length : Int) := by omega
          obtain ⟨s1, s2, s3⟩ := HT.out.2.2.2.1 x (List.mem_of_getElem? hx)
          have hst := fun (p : LightE x) => takeE_all (p := LightE) HS.out.2.2.2 hx p
          obtain ⟨xp, xt, xd⟩ := x
          dsimp only at r0 r1 r2 s1 s2 s3
          have HX := Lib.hid (And.intro hx hst)
          clear hx hst t1 t2 t3
          by_cases hgt : 5000 < mm + 5 + xp.size + xt.size + xd.size
          · have i1 : (5000 : Int) < (mm : Int) + 5 + xp.size + xt.size + xd.size := by omega
            clear hgt
            go_wp2_with fail
            go_quiet (fail)
            go_wp2_with fail
            go_ret
            exact ⟨true, rfl, HS.out.1.drewN _, fun h => by cases h⟩
          · have i1 : ¬ (5000 : Int) < (mm : Int) + 5 + xp.size + xt.size + xd.size := by omega
            have HH := Lib.hid hgt
            clear hgt
            go_wp2_with fail
            go_quiet (fail)
            go_wp2_with fail
            have hgt := HH.out
            exact ⟨⟨k + 1, mm + 5 + xp.size + xt.size + xd.size, by omega, by omega, by omega, by go_num, by go_num, HX.out.2 ⟨by show xp.size ≤ 5000; omega, by show xt.size ≤ 5000; omega, by show xd.size ≤ 5000; omega⟩, HS.out.2.2.1.drewN _⟩, by simp [intOf]; omega⟩
        · obtain rfl : k = T.length := by omega
          have hallT : ∀ x ∈ T, LightE x := by
            have h := HS.out.2.2.2
            rwa [List.take_length] at h
          have hT5 : T.length ≤ 1000 := by omega
          have HL := Lib.hid (And.intro hallT hT5)
          have q6 := HS.out.2.1.at 6 (v := .slice A fs.length c) rfl
          have hql := HS.out.2.1.lt
          clear hallT hT5 hkm
          go_wp2_with fail
          go_loopw [5, 7] (fun n i wr => HvR2 w1 fs n i wr) (fun _ i _ => fs.length - (intOf i).toNat)
          case atStart => exact ⟨0, mm, Nat.zero_le _, hm, by omega, rfl, rfl, by simp, HS.out.2.2.1⟩
          case round =>
            obtain ⟨k, mm, hk, hm, hkm, rfl, rfl, hall, hs⟩ := hrel
            have HS2 := Lib.hid (And.intro (H1.out.1.trans hs (fun _ _ h => h)) (And.intro (H1.out.2.sm hs (fun h => h)) (And.intro hs hall)))
            clear hs hall
            have q6 := HS2.out.2.1.at 6 (v := .slice A fs.length c) rfl
            have hql := HS2.out.2.1.lt
            by_cases hlt : k < fs.length
            · obtain ⟨bb, off, hAe, hbb, r0, r1⟩ := (HF.out.1.no HS2.out.1) k hlt
              obtain ⟨s1, s2⟩ := HF.out.2.2.2.1 fs[k] (List.getElem_mem hlt)
              subst hAe
              have k1 : (0 : Int) ≤ (k : Int) := by omega
              have k2 : (k : Int) < (fs.length : Int) := by omega
              have hst := fun (p : fs[k].1.size ≤ 5000 ∧ fs[k].2.size ≤ 5000) => take_anyF (p := fun x => x.1.size ≤ 5000 ∧ x.2.size ≤ 5000) HS2.out.2.2.2 (List.getElem?_eq_getElem hlt) p
              obtain ⟨nm, hnm⟩ : ∃ x, fs[k].1 = x := ⟨_, rfl⟩
              obtain ⟨vl, hvl⟩ : ∃ x, fs[k].2 = x := ⟨_, rfl⟩
              rw [hnm] at r0 s1 hst
              rw [hvl] at r1 s2 hst
              have HX := Lib.hid hst
              clear hnm hvl hst
              by_cases hgt : 5000 < mm + 5 + nm.size + vl.size
              · have i1 : (5000 : Int) < (mm : Int) + 5 + nm.size + vl.size := by omega
                clear hgt
                go_wp2_with fail
                go_quiet (fail)
                go_wp2_with fail
                go_ret
                exact ⟨true, rfl, HS2.out.1.drewN _, fun h => by cases h⟩
              · have i1 : ¬ (5000 : Int) < (mm : Int) + 5 + nm.size + vl.size := by omega
                have HH := Lib.hid hgt
                clear hgt
                go_wp2_with fail
                go_quiet (fail)
                go_wp2_with fail
                have hgt := HH.out
                exact ⟨⟨k + 1, mm + 5 + nm.size + vl.size, by omega, by omega, by omega, by go_num, by go_num, HX.out ⟨by omega, by omega⟩, HS2.out.2.2.1.drewN _⟩, by simp [intOf]; omega⟩
            · obtain rfl : k = fs.length := by omega
              have hallF : ∀ x ∈ fs, x.1.size ≤ 5000 ∧ x.2.size ≤ 5000 := by
                have h := HS2.out.2.2.2
                rwa [List.take_length] at h
              have HLF := Lib.hid hallF
              clear hallF
              go_wp2_with fail
              go_ret
              exact ⟨false, rfl, HS2.out.1, fun _ => ⟨hb5, hm5, HL.out.2, HL.out.1, by show fs.length ≤ 1000; omega, HLF.out⟩⟩
    · have i1 : (5000 : Int) < (m.size : Int) + path.size + query.size := by omega
      go_wp2_with fail
      go_ret
      exact ⟨true, rfl, (Sm.refl No w).alloc _, fun h => by cases h⟩
  · have i1 : (5000 : Int) < (body.length : Int) := by omega
    go_wp2_with fail
    go_ret
    exact ⟨true, rfl, (Sm.refl No w).alloc _, fun h => by cases h⟩
end Go.Proofs.YtiglfbimijnpcaaGreatDoor

