/- route: Match. -/
/- usherlaw19: two lists of texts; known. -/
import Derived.Test.YtiglfbimijnpcaaGreatDoorQRoutF
import Derived.Test.YtiglfbimijnpcaaGreatDoorQO
import Derived.Deep.QuietTactic
import Derived.BigQuiet
namespace Go.Proofs.YtiglfbimijnpcaaGreatDoor
open Go.RowKit Go.Proofs

/-- What Match hands back. -/
def MatchPost (w : World) (L : List Lt) (m path : Txt) (e : Ending) (w' : World) : Prop :=
  ∃ v, e = .returned (.tuple #[.int .i64 (matchL L m path).1, strB (matchL L m path).2.1, v, .int .i64 (matchL L m path).2.2.2]) ∧ OwnT w' w.heap.size v (matchL L m path).2.2.1 ∧ Sm No w w'
theorem MatchPost.of {w w' : World} {L : List Lt} {m path : Txt} {i st : Int} {rest : Txt} {al : List Txt} {v : Value} (h : matchL L m path = (i, rest, al, st)) (hv : OwnT w' w.heap.size v al) (hs : Sm No w w') :
    MatchPost w L m path (.returned (.tuple #[.int .i64 i, strB rest, v, .int .i64 st])) w' := by
  refine ⟨v, by rw [h], by rw [h]; exact hv, hs⟩
def MRel (w : World) (S : List Lt) (i v : Value) (wr : World) : Prop :=
  ∃ k : Nat, k ≤ S.length ∧ i = .int .i64 k ∧ OwnT wr w.heap.size v (msL (S.take k)) ∧ Sm No w wr
theorem msL_le (S : List Lt) (h : ∀ x ∈ S, x.ms.length ≤ 4000) : (msL S).length ≤ S.length * 4000 := by
  induction S with
  | nil => simp [msL]
  | cons x S ih =>
    have h1 := h x (by simp)
    have h2 := ih (fun y hy => h y (by simp [hy]))
    simp only [msL, List.flatMap_cons, List.length_append, List.length_cons] at h2 ⊢
    omega
theorem msL_take {S : List Lt} {k : Nat} (h : k < S.length) : msL (S.take (k + 1)) = msL (S.take k) ++ S[k].ms := by
  unfold msL
  rw [List.take_succ_eq_append_getElem h, List.flatMap_append]
  simp

theorem sortL_len (l : List Txt) : (sortL l).length = l.length := by simp [sortL]
theorem OwnT.join {w : World} {B : Nat} {v : Value} {l m : List Txt} (h : w.ownsRow B 9 1 v (l.length + m.length) (l.map strV ++ m.map strV)) : OwnT w B v (l ++ m) := by
  unfold OwnT
  rw [List.length_append, List.map_append]
  exact h
theorem own_no {S : Nat → Prop} {w w1 w2 w3 : World} {v : Value} {l : List Txt} (h : OwnT w1 w.heap.size v l) (h1 : Sm No w w2) (h2 : Sm S w2 w3) (hS : ∀ b, S b → v.ownBlock = some b) : Sm No w w3 :=
  ((h1.any _).trans h2 (fun _ _ e => e)).mono (fun b hb e => by
    have := (World.ownsRow.lt h _ (hS b e)).1
    omega)

set_option maxRecDepth 100000 in
set_option maxHeartbeats 2000000 in
/-- What is left when no route serves the method: which methods do. -/
theorem match_any (w : World) (O : Nat → Prop) (r : Nat) (L : List Lt) (m path : ByteArray) (h : IsRouter w O r L) (hL : L.length ≤ 64) (hms : ∀ x ∈ L, x.ms.length ≤ 4000) (hp : path.size ≤ 1000000) :
    Calls Tryz.prog 41 #[.pointer (some ⟨r, 0, none⟩), .string m, .string path] w (MatchPost w L (txt m) (txt path)) := by
  obtain ⟨M, hM⟩ : ∃ M, matchL L (txt m) (txt path) = M := ⟨_, rfl⟩
  have HM := Lib.hid hM
  have HF := Lib.hid (find_any w O r L path h (fun x hx => Nat.le_trans (hms x hx) (by decide)) hp)
  have HI := Lib.hid (And.intro hms h)
  clear hM h hms
  go_enter Tryz.func41, Tryz.ntmps41
  go_wp2_with fail
  refine HF.out.mono ?_
  rintro e w1 ⟨v, rest, rfl, hs1, hor⟩
  have nE := eqlS
  have nN := eqlN
  rcases hor with ⟨hf, rfl, rfl⟩ | ⟨k, hf, hne, hR⟩
  · have hc : matchL L (txt m) (txt path) = (0, [], [], 404) := by unfold matchL; rw [hf]
    have HE := Lib.hid (MatchPost.of hc (World.ownsRow_nil _ _ _ 1 : OwnT w1 w.heap.size (.slice none 0 0) []) hs1)
    unfold nilV
    clear hc hf hs1
    go_wp2_with fail
    exact bodyPost_ret (v := .tuple #[.int .i64 0, .string ⟨#[]⟩, .slice none 0 0, .int .i64 404]) (by simp [results, Tryz.results41, go_sem]) rfl HE.out
  · obtain ⟨A, c, rfl, hA⟩ := hR.form
    obtain ⟨g, rfl⟩ := hA hne
    have hSl : (sel L k).length ≤ 64 := Nat.le_trans (List.length_filter_le _ _) hL
    have hSm : ∀ x ∈ sel L k, x.ms.length ≤ 4000 := fun x hx => HI.out.1 x (List.mem_filter.1 hx).1
    have hmt : ∀ i, pickL (sel L k) (txt m) = some i → matchL L (txt m) (txt path) = (i, rest, [], 200) := fun i e => by unfold matchL; rw [hf]; simp only [e]
    have hmn : pickL (sel L k) (txt m) = none → matchL L (txt m) (txt path) = (0, [], allowP (sel L k), 405) := fun e => by unfold matchL; rw [hf]; simp only [e]
    obtain ⟨S, hS⟩ : ∃ S, sel L k = S := ⟨_, rfl⟩
    rw [hS] at hR hSl hSm hmt hmn hne ⊢
    have HK := Lib.hid (And.intro hR (And.intro hSm (And.intro hs1 (And.intro hmt hmn))))
    obtain ⟨rb, hrb⟩ : ∃ rb : ByteArray, strB rest = .string rb := ⟨_, rfl⟩
    have HRB := Lib.hid hrb
    rw [hrb]
    obtain ⟨P, hP⟩ : ∃ P, ofL S (txt m) = P := ⟨_, rfl⟩
    have HO := Lib.hid (of19_any w1 _ S m (hR.no hs1) (by omega))
    rw [hP] at HO
    have HPk := Lib.hid hP
    clear hf hne hR hS hSm hmt hmn hs1 hrb hA hP
    cases P with
    | some i =>
      have hc := HK.out.2.2.2.1 i (by unfold pickL; rw [HPk.out])
      go_wp2_with fail
      refine HO.out.mono ?_
      rintro e w2 ⟨rfl, hs2⟩
      have HE := Lib.hid (MatchPost.of hc (World.ownsRow_nil _ _ _ 1 : OwnT w2 w.heap.size (.slice none 0 0) []) (HK.out.2.2.1.trans hs2 (fun _ _ h => h)))
      rw [HRB.out] at HE
      clear hc hs2
      unfold ofV
      go_wp2_with fail
      exact bodyPost_ret (v := .tuple #[.int .i64 i, .string rb, .slice none 0 0, .int .i64 200]) (by simp [results, Tryz.results41, go_sem]) rfl HE.out
    | none =>
      by_cases hm : m.toList = [72, 69, 65, 68]
      · obtain ⟨P2, hP2⟩ : ∃ P, ofL S GET = P := ⟨_, rfl⟩
        have hpk : pickL S (txt m) = P2 := by
          unfold pickL
          rw [HPk.out, ← hP2]
          simp only
          rw [if_pos ((bytes_eq_iff m HEAD).1 hm)]
        have HO2 := Lib.hid (fun (w2 : World) (hs : Sm No w1 w2) => of19_any w2 _ S ⟨#[71, 69, 84]⟩ (HK.out.1.no (HK.out.2.2.1.trans hs (fun _ _ h => h))) (by omega))
        rw [show txt (⟨#[71, 69, 84]⟩ : ByteArray) = GET from rfl, hP2] at HO2
        have HP2 := Lib.hid hpk
        clear hpk hP2
        go_wp2_with fail
        refine HO.out.mono ?_
        rintro e w2 ⟨rfl, hs2⟩
        have HS2 := Lib.hid hs2
        clear hs2
        unfold ofV
        go_wp2_with fail
        refine (HO2.out w2 HS2.out).mono ?_
        rintro e w3 ⟨rfl, hs3⟩
        have HS3 := Lib.hid ((HK.out.2.2.1.trans HS2.out (fun _ _ h => h)).trans hs3 (fun _ _ h => h))
        have HSa := Lib.hid (HS2.out.trans hs3 (fun _ _ h => h))
        clear hs3
        cases P2 with
        | some i =>
          have hc := HK.out.2.2.2.1 i HP2.out
          have HE := Lib.hid (MatchPost.of hc (World.ownsRow_nil _ _ _ 1 : OwnT w3 w.heap.size (.slice none 0 0) []) HS3.out)
          rw [HRB.out] at HE
          clear hc
          unfold ofV
          go_wp2_with fail
          exact bodyPost_ret (v := .tuple #[.int .i64 i, .string rb, .slice none 0 0, .int .i64 200]) (by simp [results, Tryz.results41, go_sem]) rfl HE.out
        | none =>
          unfold ofV
          go_wp2_with fail
          have hc := HK.out.2.2.2.2 HP2.out
          have HC := Lib.hid hc
          clear hc
          go_loopw [44, 8] (fun i v wr => MRel w S i v wr) (fun i _ _ => S.length - (intOf i).toNat)
          case atStart => exact ⟨0, Nat.zero_le _, rfl, World.ownsRow_nil _ _ _ 1, HS3.out⟩
          case round =>
            obtain ⟨k, hk, rfl, hown, hsm⟩ := hrel
            have hlen : (msL (S.take k)).length ≤ 900000 := by
              have := msL_le (S.take k) (fun x hx => HK.out.2.1 x (List.mem_of_mem_take hx))
              have h2 : (S.take k).length ≤ S.length := by simp; omega
              have : (S.take k).length * 4000 ≤ 64 * 4000 := Nat.mul_le_mul (by omega) (Nat.le_refl _)
              omega
            by_cases hlt : k < S.length
            · obtain ⟨n, hn⟩ : ∃ n, (msL (S.take k)).length = n := ⟨_, rfl⟩
              rw [hn] at hlen
              obtain ⟨g2, A2, c2, hAe, hg, r0, r1, hR2, hl2, hA2⟩ := (HK.out.1.no hsm).get hlt
              obtain rfl : g = g2 := by simpa using hAe
              have hmz := HK.out.2.1 _ (List.getElem_mem hlt)
              have hstep := msL_take hlt
              obtain ⟨yi, hyi⟩ : ∃ yi, S[k].id = yi := ⟨_, rfl⟩
              obtain ⟨ym, hym⟩ : ∃ ym, S[k].ms = ym := ⟨_, rfl⟩
              rw [hyi] at r0
              rw [hym] at r1 hR2 hl2 hmz hstep
              have hA0 : A2 = none → ym.length = 0 ∧ c2 = 0 := fun e => by
                subst e
                refine ⟨?_, hA2 rfl⟩
                rcases Nat.eq_zero_or_pos ym.length with h | h
                · exact h
                · obtain ⟨_, _, he, _⟩ := hR2.at (strV_at h)
                  cases he
              have hs2 := (Sm.refl No wr).alloc (.cells #[.int .i64 yi, .slice A2 ym.length c2] 119)
              have HOwn := Lib.hid (show (wr.alloc (.cells #[.int .i64 yi, .slice A2 ym.length c2] 119)).ownsRow w.heap.size 9 1 _ n _ from hn ▸ (World.ownsRow.alloc hown (.cells #[.int .i64 yi, .slice A2 ym.length c2] 119)))
              have HBx := Lib.hid (And.intro hA0 (And.intro (hR2.no hs2) (And.intro hown (And.intro (hsm.trans hs2 (fun _ _ h => h)) (And.intro hstep hn)))))
              have HBb : Hid (w.heap.size ≤ (wr.alloc (.cells #[.int .i64 yi, .slice A2 ym.length c2] 119)).heap.size) := Lib.hid (HBx.out.2.2.2.1.size)
              have k1 : (0 : Int) ≤ (k : Int) := by omega
              have k2 : (k : Int) < (S.length : Int) := by omega
              clear hAe hyi hym hA0 hR2 hA2 hs2 hown hsm hstep hn
              go_wp2_with (refine wpList_push_opt rfl _ _ 82 9 rfl Tryz.underlying82 _ 1 16 infoStr rfl (by decide) (by decide) w.heap.size n _ _ rfl HOwn.out A2 ym.length c2 (ym.map strV) rfl HBx.out.1 (by simp) HBx.out.2.1 (by simp [strV, Value.oneCell']) (by omega) HBb.out ?_; intro v' w4 hown4 hs4 hv4)
              have HF4 := Lib.hid (show OwnT w4 w.heap.size v' (msL (S.take (k + 1))) ∧ Sm No w w4 from ⟨by rw [HBx.out.2.2.2.2.1]; exact OwnT.join (by rw [HBx.out.2.2.2.2.2]; exact hown4), own_no HBx.out.2.2.1 HBx.out.2.2.2.1 hs4 (fun _ e => e)⟩)
              clear hown4 hs4 hv4
              go_wp2_with fail
              exact ⟨⟨k + 1, by omega, by go_num, HF4.out.1, HF4.out.2⟩, by simp [intOf]; omega⟩
            · have hall : S.take k = S := List.take_of_length_le (by omega)
              rw [hall] at hown hlen
              obtain ⟨Av, cv, rfl, hRv, _, _⟩ := own_rowC hown
              obtain ⟨b, hb⟩ : ∃ b, (msL S).contains (txt ⟨#[71, 69, 84]⟩) = b := ⟨_, rfl⟩
              have HB := Lib.hid hb
              have HX := Lib.hid (And.intro hRv (And.intro hown hsm))
              clear hall hRv hown hb hsm
              go_wp2_with fail
              refine (contains_say HB _ Av cv HX.out.1 (by omega)).mono ?_
              rintro e w5 ⟨rfl, rfl⟩
              cases b
              · have HSO := Lib.hid (And.intro HX.out.2.1 (And.intro HX.out.2.2 (And.intro (show (msL S).length ≤ 1000000 by omega) (show withHead (msL S) = msL S by unfold withHead; rw [if_neg]; rw [show (msL S).contains GET = false from HB.out]; simp))))
                go_wp2_with fail
                refine (sort_own _ w.heap.size _ (msL S) HSO.out.1 HSO.out.2.2.1).mono ?_
                rintro e w6 ⟨rfl, hO6, hs6⟩
                have H6 := Lib.hid (And.intro hO6 (own_no HSO.out.1 HSO.out.2.1 hs6 (fun _ e => e)))
                clear hO6 hs6
                go_wp2_with fail
                refine (compact_own _ w.heap.size _ (sortL (msL S)) H6.out.1 (by rw [sortL_len]; exact HSO.out.2.2.1)).mono ?_
                rintro e w7 ⟨v7, rfl, hO7, hs7⟩
                have H7 := Lib.hid (MatchPost.of (HC.out.trans (by rw [allowP, HSO.out.2.2.2])) hO7 (own_no H6.out.1 H6.out.2 hs7 (fun _ e => e)))
                obtain ⟨A7, c7, rfl, _, _, _⟩ := own_rowC hO7
                clear hO7 hs7
                go_wp2_with fail
                exact bodyPost_ret (v := .tuple #[.int .i64 0, .string ⟨#[]⟩, .slice A7 (Lib.compact (sortL (msL S))).length c7, .int .i64 405]) (by simp [results, Tryz.results41, go_sem]) rfl H7.out
              · have HKx := Lib.hid (World.ownsRow.alloc HX.out.2.1 (.cells #[.string ⟨#[72, 69, 65, 68]⟩] 9))
                have HKb : Hid (w.heap.size ≤ (w5.alloc (.cells #[.string ⟨#[72, 69, 65, 68]⟩] 9)).heap.size) := Lib.hid ((HX.out.2.2.alloc _).size)
                go_wp2_with (refine wpList_push rfl _ _ 82 9 rfl Tryz.underlying82 _ 1 16 infoStr rfl (by decide) (by decide) w.heap.size _ _ _ rfl HKx.out w5.heap.size #[.string ⟨#[72, 69, 65, 68]⟩] rfl (Bk.new w5 _ _) rfl (by simp [Value.oneCell']) (by omega) HKb.out ?_; intro v' w4 hown4 hs4 hv4)
                have HSO := Lib.hid (And.intro (OwnT.push (t := HEAD) hown4) (And.intro (own_no HX.out.2.1 (HX.out.2.2.alloc _) hs4 (fun _ e => e)) (And.intro (show (msL S ++ [HEAD]).length ≤ 1000000 by simp; omega) (show withHead (msL S) = msL S ++ [HEAD] by unfold withHead; rw [if_pos]; exact HB.out))))
                clear hown4 hs4 hv4
                go_wp2_with fail
                refine (sort_own _ w.heap.size _ (msL S ++ [HEAD]) HSO.out.1 HSO.out.2.2.1).mono ?_
                rintro e w6 ⟨rfl, hO6, hs6⟩
                have H6 := Lib.hid (And.intro hO6 (own_no HSO.out.1 HSO.out.2.1 hs6 (fun _ e => e)))
                clear hO6 hs6
                go_wp2_with fail
                refine (compact_own _ w.heap.size _ (sortL (msL S ++ [HEAD])) H6.out.1 (by rw [sortL_len]; exact HSO.out.2.2.1)).mono ?_
                rintro e w7 ⟨v7, rfl, hO7, hs7⟩
                have H7 := Lib.hid (MatchPost.of (HC.out.trans (by rw [allowP, HSO.out.2.2.2])) hO7 (own_no H6.out.1 H6.out.2 hs7 (fun _ e => e)))
                obtain ⟨A7, c7, rfl, _, _, _⟩ := own_rowC hO7
                clear hO7 hs7
                go_wp2_with fail
                exact bodyPost_ret (v := .tuple #[.int .i64 0, .string ⟨#[]⟩, .slice A7 (Lib.compact (sortL (msL S ++ [HEAD]))).length c7, .int .i64 405]) (by simp [results, Tryz.results41, go_sem]) rfl H7.out
      · have hpk : pickL S (txt m) = none := by
          unfold pickL
          rw [HPk.out]
          simp only
          rw [if_neg (fun e => hm ((bytes_eq_iff m HEAD).2 e))]
        have HP2 := Lib.hid hpk
        clear hpk
        have hm2 : (m.toList == [72, 69, 65, 68]) = false := by simpa using hm
        go_wp2_with fail
        refine HO.out.mono ?_
        rintro e w3 ⟨rfl, hs3⟩
        have HS3 := Lib.hid (HK.out.2.2.1.trans hs3 (fun _ _ h => h))
        have HSa := Lib.hid hs3
        clear hs3
        unfold ofV
        go_wp2_with fail
        have hc := HK.out.2.2.2.2 HP2.out
        have HC := Lib.hid hc
        clear hc
        go_loopw [44, 8] (fun i v wr => MRel w S i v wr) (fun i _ _ => S.length - (intOf i).toNat)
        case atStart => exact ⟨0, Nat.zero_le _, rfl, World.ownsRow_nil _ _ _ 1, HS3.out⟩
        case round =>
          obtain ⟨k, hk, rfl, hown, hsm⟩ := hrel
          have hlen : (msL (S.take k)).length ≤ 900000 := by
            have := msL_le (S.take k) (fun x hx => HK.out.2.1 x (List.mem_of_mem_take hx))
            have h2 : (S.take k).length ≤ S.length := by simp; omega
            have : (S.take k).length * 4000 ≤ 64 * 4000 := Nat.mul_le_mul (by omega) (Nat.le_refl _)
            omega
          by_cases hlt : k < S.length
          · obtain ⟨n, hn⟩ : ∃ n, (msL (S.take k)).length = n := ⟨_, rfl⟩
            rw [hn] at hlen
            obtain ⟨g2, A2, c2, hAe, hg, r0, r1, hR2, hl2, hA2⟩ := (HK.out.1.no hsm).get hlt
            obtain rfl : g = g2 := by simpa using hAe
            have hmz := HK.out.2.1 _ (List.getElem_mem hlt)
            have hstep := msL_take hlt
            obtain ⟨yi, hyi⟩ : ∃ yi, S[k].id = yi := ⟨_, rfl⟩
            obtain ⟨ym, hym⟩ : ∃ ym, S[k].ms = ym := ⟨_, rfl⟩
            rw [hyi] at r0
            rw [hym] at r1 hR2 hl2 hmz hstep
            have hA0 : A2 = none → ym.length = 0 ∧ c2 = 0 := fun e => by
              subst e
              refine ⟨?_, hA2 rfl⟩
              rcases Nat.eq_zero_or_pos ym.length with h | h
              · exact h
              · obtain ⟨_, _, he, _⟩ := hR2.at (strV_at h)
                cases he
            have hs2 := (Sm.refl No wr).alloc (.cells #[.int .i64 yi, .slice A2 ym.length c2] 119)
            have HOwn := Lib.hid (show (wr.alloc (.cells #[.int .i64 yi, .slice A2 ym.length c2] 119)).ownsRow w.heap.size 9 1 _ n _ from hn ▸ (World.ownsRow.alloc hown (.cells #[.int .i64 yi, .slice A2 ym.length c2] 119)))
            have HBx := Lib.hid (And.intro hA0 (And.intro (hR2.no hs2) (And.intro hown (And.intro (hsm.trans hs2 (fun _ _ h => h)) (And.intro hstep hn)))))
            have HBb : Hid (w.heap.size ≤ (wr.alloc (.cells #[.int .i64 yi, .slice A2 ym.length c2] 119)).heap.size) := Lib.hid (HBx.out.2.2.2.1.size)
            have k1 : (0 : Int) ≤ (k : Int) := by omega
            have k2 : (k : Int) < (S.length : Int) := by omega
            clear hAe hyi hym hA0 hR2 hA2 hs2 hown hsm hstep hn
            go_wp2_with (refine wpList_push_opt rfl _ _ 82 9 rfl Tryz.underlying82 _ 1 16 infoStr rfl (by decide) (by decide) w.heap.size n _ _ rfl HOwn.out A2 ym.length c2 (ym.map strV) rfl HBx.out.1 (by simp) HBx.out.2.1 (by simp [strV, Value.oneCell']) (by omega) HBb.out ?_; intro v' w4 hown4 hs4 hv4)
            have HF4 := Lib.hid (show OwnT w4 w.heap.size v' (msL (S.take (k + 1))) ∧ Sm No w w4 from ⟨by rw [HBx.out.2.2.2.2.1]; exact OwnT.join (by rw [HBx.out.2.2.2.2.2]; exact hown4), own_no HBx.out.2.2.1 HBx.out.2.2.2.1 hs4 (fun _ e => e)⟩)
            clear hown4 hs4 hv4
            go_wp2_with fail
            exact ⟨⟨k + 1, by omega, by go_num, HF4.out.1, HF4.out.2⟩, by simp [intOf]; omega⟩
          · have hall : S.take k = S := List.take_of_length_le (by omega)
            rw [hall] at hown hlen
            obtain ⟨Av, cv, rfl, hRv, _, _⟩ := own_rowC hown
            obtain ⟨b, hb⟩ : ∃ b, (msL S).contains (txt ⟨#[71, 69, 84]⟩) = b := ⟨_, rfl⟩
            have HB := Lib.hid hb
            have HX := Lib.hid (And.intro hRv (And.intro hown hsm))
            clear hall hRv hown hb hsm
            go_wp2_with fail
            refine (contains_say HB _ Av cv HX.out.1 (by omega)).mono ?_
            rintro e w5 ⟨rfl, rfl⟩
            cases b
            · have HSO := Lib.hid (And.intro HX.out.2.1 (And.intro HX.out.2.2 (And.intro (show (msL S).length ≤ 1000000 by omega) (show withHead (msL S) = msL S by unfold withHead; rw [if_neg]; rw [show (msL S).contains GET = false from HB.out]; simp))))
              go_wp2_with fail
              refine (sort_own _ w.heap.size _ (msL S) HSO.out.1 HSO.out.2.2.1).mono ?_
              rintro e w6 ⟨rfl, hO6, hs6⟩
              have H6 := Lib.hid (And.intro hO6 (own_no HSO.out.1 HSO.out.2.1 hs6 (fun _ e => e)))
              clear hO6 hs6
              go_wp2_with fail
              refine (compact_own _ w.heap.size _ (sortL (msL S)) H6.out.1 (by rw [sortL_len]; exact HSO.out.2.2.1)).mono ?_
              rintro e w7 ⟨v7, rfl, hO7, hs7⟩
              have H7 := Lib.hid (MatchPost.of (HC.out.trans (by rw [allowP, HSO.out.2.2.2])) hO7 (own_no H6.out.1 H6.out.2 hs7 (fun _ e => e)))
              obtain ⟨A7, c7, rfl, _, _, _⟩ := own_rowC hO7
              clear hO7 hs7
              go_wp2_with fail
              exact bodyPost_ret (v := .tuple #[.int .i64 0, .string ⟨#[]⟩, .slice A7 (Lib.compact (sortL (msL S))).length c7, .int .i64 405]) (by simp [results, Tryz.results41, go_sem]) rfl H7.out
            · have HKx := Lib.hid (World.ownsRow.alloc HX.out.2.1 (.cells #[.string ⟨#[72, 69, 65, 68]⟩] 9))
              have HKb : Hid (w.heap.size ≤ (w5.alloc (.cells #[.string ⟨#[72, 69, 65, 68]⟩] 9)).heap.size) := Lib.hid ((HX.out.2.2.alloc _).size)
              go_wp2_with (refine wpList_push rfl _ _ 82 9 rfl Tryz.underlying82 _ 1 16 infoStr rfl (by decide) (by decide) w.heap.size _ _ _ rfl HKx.out w5.heap.size #[.string ⟨#[72, 69, 65, 68]⟩] rfl (Bk.new w5 _ _) rfl (by simp [Value.oneCell']) (by omega) HKb.out ?_; intro v' w4 hown4 hs4 hv4)
              have HSO := Lib.hid (And.intro (OwnT.push (t := HEAD) hown4) (And.intro (own_no HX.out.2.1 (HX.out.2.2.alloc _) hs4 (fun _ e => e)) (And.intro (show (msL S ++ [HEAD]).length ≤ 1000000 by simp; omega) (show withHead (msL S) = msL S ++ [HEAD] by unfold withHead; rw [if_pos]; exact HB.out))))
              clear hown4 hs4 hv4
              go_wp2_with fail
              refine (sort_own _ w.heap.size _ (msL S ++ [HEAD]) HSO.out.1 HSO.out.2.2.1).mono ?_
              rintro e w6 ⟨rfl, hO6, hs6⟩
              have H6 := Lib.hid (And.intro hO6 (own_no HSO.out.1 HSO.out.2.1 hs6 (fun _ e => e)))
              clear hO6 hs6
              go_wp2_with fail
              refine (compact_own _ w.heap.size _ (sortL (msL S ++ [HEAD])) H6.out.1 (by rw [sortL_len]; exact HSO.out.2.2.1)).mono ?_
              rintro e w7 ⟨v7, rfl, hO7, hs7⟩
              have H7 := Lib.hid (MatchPost.of (HC.out.trans (by rw [allowP, HSO.out.2.2.2])) hO7 (own_no H6.out.1 H6.out.2 hs7 (fun _ e => e)))
              obtain ⟨A7, c7, rfl, _, _, _⟩ := own_rowC hO7
              clear hO7 hs7
              go_wp2_with fail
              exact bodyPost_ret (v := .tuple #[.int .i64 0, .string ⟨#[]⟩, .slice A7 (Lib.compact (sortL (msL S ++ [HEAD]))).length c7, .int .i64 405]) (by simp [results, Tryz.results41, go_sem]) rfl H7.out

end Go.Proofs.YtiglfbimijnpcaaGreatDoor

namespace Go.Proofs.YtiglfbimijnpcaaGreatDoor
open Go.RowKit Go.Proofs

theorem rowC_bk {w : World} {g : Nat} {t : TypeId} {cs : Array Value} (h : Bk w g t cs) : RowC w (some ⟨g, 0, none⟩) cs.toList := by
  intro j u hj
  refine ⟨g, 0, rfl, h.lt, ?_⟩
  rw [Nat.zero_add]
  exact h.at j (by simpa using hj)
theorem Sm.fresh {S : Nat → Prop} {w w1 w2 : World} (h : Sm No w w1) (k : Sm S w1 w2) (hS : ∀ b, S b → w.heap.size ≤ b) : Sm No w w2 :=
  ((h.any _).trans k (fun _ _ e => e)).mono (fun b hb e => by have := hS b e; omega)

/-- A Router of the call's own: made behind world w. -/
def Own19 (w w1 : World) (r : Nat) (L : List Lt) : Prop := ∃ O, IsRouter w1 O r L ∧ Sm No w w1 ∧ ∀ b, O b → w.heap.size ≤ b
theorem Own19.no {w w1 w2 : World} {r : Nat} {L : List Lt} (h : Own19 w w1 r L) (hs : Sm No w1 w2) : Own19 w w2 r L := by
  obtain ⟨O, h1, h2, h3⟩ := h
  exact ⟨O, h1.no hs, h2.trans hs (fun _ _ h => h), h3⟩
theorem Own19.sm {w w1 : World} {r : Nat} {L : List Lt} (h : Own19 w w1 r L) : Sm No w w1 := by
  obtain ⟨O, _, h2, _⟩ := h
  exact h2
/-- What is known of the routes of a Router that was filled. -/
def Fine (L : List Lt) : Prop := L.length ≤ 64 ∧ ∀ x ∈ L, x.ms.length ≤ 4000
theorem Fine.nil : Fine [] := ⟨by simp, by simp⟩
theorem Fine.add {L : List Lt} {x : Lt} (h : Fine L) (hx : x.ms.length ≤ 4000) : Fine (addS L x) := by
  unfold addS
  split
  · rename_i hc
    have := (addC_ok hc).2.2.2.1
    refine ⟨by simp; omega, fun y hy => ?_⟩
    rcases List.mem_append.1 hy with hy | hy
    · exact h.2 y hy
    · rw [List.mem_singleton] at hy; subst hy; exact hx
  · exact h
end Go.Proofs.YtiglfbimijnpcaaGreatDoor

