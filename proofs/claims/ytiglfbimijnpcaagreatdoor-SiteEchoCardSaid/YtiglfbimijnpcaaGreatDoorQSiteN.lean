/- What an empty Site answers, in words: the echo. -/
import Derived.Test.YtiglfbimijnpcaaGreatDoorQSiteJ
import Derived.Test.YtiglfbimijnpcaaGreatDoorQC
namespace Go.Proofs.YtiglfbimijnpcaaGreatDoor
open Go.RowKit Go.Proofs

def cTY : ByteArray := ⟨#[99, 111, 110, 116, 101, 110, 116, 45, 84, 89, 80, 69]⟩
theorem site0 : siteC [] = 0 := by decide +kernel
theorem typeL_nil : typeL [] = txtB sOctet := by rfl
theorem typeL_one {kind : ByteArray} (h : isF cTY.data.toList kind.data.toList = true) : typeL [(cTY, kind)] = if kind.size = 0 then txtB sOctet else kind := by
  have hx : isX (cTY, kind) = true := h
  have e1 : (addL [] [(cTY, kind)]).1 = [(cTY, kind)] := by
    unfold addL
    rw [if_neg (by rw [hx]; decide), if_neg (by decide)]
    rfl
  have e2 : valuesL [(cTY, kind)] (txtB sCT) = [kind] := by
    unfold valuesL
    rw [List.filter_cons, if_pos (show sameL cTY.data.toList (txtB sCT).data.toList = true by decide +kernel)]
    rfl
  have e3 : getL [(cTY, kind)] (txtB sCT) = kind.data.toList := by
    unfold getL
    rw [e2]
    simp [Lib.join_cons, Lib.joinTail]
  have e4 : trimL kind.data.toList = kind.data.toList := by
    unfold isF at h
    simp only [Bool.and_eq_true, beq_iff_eq] at h
    exact h.2.2
  unfold typeL
  rw [e1, e3, e4]
  by_cases hz : kind.size = 0
  · rw [if_pos hz, if_pos (List.eq_nil_of_length_eq_zero (by simpa using hz))]
  · rw [if_neg hz, if_neg (fun e => hz (by have : kind.data.toList.length = 0 := by rw [e]; rfl
                                           simpa using this))]
    rfl
def qP (m : ByteArray) (fs : List Fld) (body : List UInt8) : Rq := ⟨m, 1, ⟨#[]⟩, ⟨#[47, 101, 99, 104, 111]⟩, ⟨#[]⟩, 0, fs, body, false, false⟩
theorem echo_a (fs : List Fld) (body : List UInt8) : serveL [] (qP ⟨#[80, 79, 83, 84]⟩ fs body) = okL (typeL fs) body := by
  have e1 : findP base3 pEcho = some ((false, pEcho), []) := by decide +kernel
  have e2 : sel base3 (false, pEcho) = [⟨pEcho, 1, [POST]⟩] := by rfl
  have e3 : pickL [⟨pEcho, 1, [POST]⟩] POST = some 1 := by decide +kernel
  have hm : matchL (routesL []) (txt (qP ⟨#[80, 79, 83, 84]⟩ fs body).m) (txt (qP ⟨#[80, 79, 83, 84]⟩ fs body).path) = (1, [], [], 200) := by
    show matchL base3 POST pEcho = _
    unfold matchL
    rw [e1]
    simp only [e2, e3]
  unfold serveL
  rw [if_neg (show ¬ (qP ⟨#[80, 79, 83, 84]⟩ fs body).form = 4 by show ¬ (1 : Int) = 4; decide), if_neg (show ¬ ((qP ⟨#[80, 79, 83, 84]⟩ fs body).form = 3 ∨ txt (qP ⟨#[80, 79, 83, 84]⟩ fs body).m ∉ m4) from (by show ¬ ((1 : Int) = 3 ∨ POST ∉ m4); decide)), hm]
  simp only
  rw [if_neg (by decide), if_neg (by decide)]
  unfold idA
  rw [if_pos rfl]
  rfl
theorem echo_b (fs : List Fld) (body : List UInt8) : ∃ t, serveL [] (qP ⟨#[71, 69, 84]⟩ fs body) = ⟨405, [ctOf sPlain, (txtB sAllow, txtB POST)], t, []⟩ := by
  have e1 : findP base3 pEcho = some ((false, pEcho), []) := by decide +kernel
  have e2 : sel base3 (false, pEcho) = [⟨pEcho, 1, [POST]⟩] := by rfl
  have e3 : pickL [⟨pEcho, 1, [POST]⟩] GET = none := by decide +kernel
  have hm : matchL (routesL []) (txt (qP ⟨#[71, 69, 84]⟩ fs body).m) (txt (qP ⟨#[71, 69, 84]⟩ fs body).path) = (0, [], [POST], 405) := by
    show matchL base3 GET pEcho = _
    unfold matchL
    rw [e1]
    simp only [e2, e3, allow_one ⟨pEcho, 1, [POST]⟩ POST rfl (by decide)]
  have h2 : ¬ txt (qP ⟨#[71, 69, 84]⟩ fs body).m = OPTS := by
    show ¬ GET = OPTS
    decide
  unfold serveL
  rw [if_neg (show ¬ (qP ⟨#[71, 69, 84]⟩ fs body).form = 4 by show ¬ (1 : Int) = 4; decide), if_neg (show ¬ ((qP ⟨#[71, 69, 84]⟩ fs body).form = 3 ∨ txt (qP ⟨#[71, 69, 84]⟩ fs body).m ∉ m4) from (by show ¬ ((1 : Int) = 3 ∨ GET ∉ m4); decide)), hm]
  simp only
  rw [if_neg (by decide), if_true, if_neg h2]
  unfold cannedL
  rw [if_neg (by decide)]
  exact ⟨_, rfl⟩
end Go.Proofs.YtiglfbimijnpcaaGreatDoor

