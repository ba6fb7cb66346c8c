/- Heads, and how requests go on, in words; no program in sight. -/
/- Bodies in chunks, and requests byte by byte, in words; no program in sight. -/
/- The document's Fields within another struct: a block whose first cell is its slice. (Printed by genPrsJ.py out of FieldQ, FieldR, FieldS.) -/
/- The document's framing: host, coding, length. -/
/- The document's framing: length. -/
import Derived.Test.YtiglfbimijnpcaaGreatDoorQP
import Derived.Test.YtiglfbimijnpcaaGreatDoorQL
import Derived.Test.YtiglfbimijnpcaaGreatDoorQK
import Derived.Deep.RegionLaw
namespace Go.Proofs.YtiglfbimijnpcaaGreatDoor
open Go.RowKit Go.Proofs

def nHost : ByteArray := ⟨#[72, 111, 115, 116]⟩
def nLen : ByteArray := ⟨#[67, 111, 110, 116, 101, 110, 116, 45, 76, 101, 110, 103, 116, 104]⟩
def nCod : ByteArray := ⟨#[84, 114, 97, 110, 115, 102, 101, 114, 45, 69, 110, 99, 111, 100, 105, 110, 103]⟩
def nCon : ByteArray := ⟨#[67, 111, 110, 110, 101, 99, 116, 105, 111, 110]⟩
def nExp : ByteArray := ⟨#[69, 120, 112, 101, 99, 116]⟩
def sChunked : Txt := [99, 104, 117, 110, 107, 101, 100]
def sClose : Txt := [99, 108, 111, 115, 101]
def sKeep : Txt := [107, 101, 101, 112, 45, 97, 108, 105, 118, 101]
def sHundred : Txt := [49, 48, 48, 45, 99, 111, 110, 116, 105, 110, 117, 101]

structure HowW where
  kind : Int
  len : Int
  close : Bool
  expect : Bool
def how0 : HowW := ⟨0, 0, false, false⟩
/-- Is the field Host right? -/
def hostW (minor : Int) (l : List ByteArray) : Bool := match l with
  | [] => !(minor == 1)
  | [x] => x.size == 0 || hostL (txt x)
  | _ => false
/-- By Transfer-Encoding; a status. -/
def codT (l : List Txt) : Int := if l.getLast? = some sChunked then (if l.length = 1 then 0 else if l.dropLast.any (· == sChunked) = true then 400 else 501) else 400
def codW (minor : Int) (cl te : List ByteArray) : Int := if minor = 0 ∨ 0 < cl.length then 400 else match tokensL (bytesL te) with
  | none => 400
  | some l => codT l
/-- By Content-Length; a status. -/
def lenT (l : List Txt) : Int × Int := match l with
  | [] => (0, 400)
  | t :: r => if (t :: r).all (fun x => (numD x).2 && (numD x).1 == (numD t).1) = true then (if 2048 < (numD t).1 then (0, 413) else ((numD t).1, 0)) else (0, 400)
def lenW (cl : List ByteArray) : Int × Int := match tokensL (bytesL cl) with
  | none => (0, 400)
  | some l => lenT l
def kindW (minor : Int) (fs : List Fld) : Int × Int × Int :=
  if 0 < (valuesL fs nCod).length then (2, 0, codW minor (valuesL fs nLen) (valuesL fs nCod)) else
  if 0 < (valuesL fs nLen).length then (1, (lenW (valuesL fs nLen)).1, (lenW (valuesL fs nLen)).2) else (0, 0, 0)
def closeW (minor : Int) (T : Option (List Txt)) : Bool := hasL T sClose || ((minor == 0) && !hasL T sKeep)
/-- How a request goes on, or a status. -/
def howW (minor : Int) (fs : List Fld) : HowW × Int :=
  if hostW minor (valuesL fs nHost) = false then (how0, 400) else
  if (kindW minor fs).2.2 ≠ 0 then (how0, (kindW minor fs).2.2) else
  if tokensL (bytesL (valuesL fs nCon)) = none then (how0, 400) else
  if minor = 1 ∧ 0 < (valuesL fs nExp).length then
    (if sameL (getL fs nExp) sHundred = false then (how0, 417) else (⟨(kindW minor fs).1, (kindW minor fs).2.1, closeW minor (tokensL (bytesL (valuesL fs nCon))), decide ((kindW minor fs).1 = 2) || decide (0 < (kindW minor fs).2.1)⟩, 0))
  else (⟨(kindW minor fs).1, (kindW minor fs).2.1, closeW minor (tokensL (bytesL (valuesL fs nCon))), false⟩, 0)

/-! A head, line by line. -/
structure Hd where
  fields : List Fld
  method : Txt
  target : Tg
  minor : Int
  how : HowW
  started : Bool
  whole : Bool
  status : Int
  bytes : Nat
  empty : Nat
def Hd.new : Hd := ⟨[], [], ⟨0, [], [], []⟩, 0, how0, false, false, 0, 0, 0⟩
/-- What stands between blanks. -/
def spcT : Txt → Txt → List Txt
  | _, [] => []
  | cur, c :: l => if c = 32 then cur :: spcT [] l else spcT (cur ++ [c]) l
def spcL (s : Txt) : List Txt := spcT [] (s ++ [32])
def digB (c : UInt8) : Bool := decide (48 ≤ c.toNat) && decide (c.toNat ≤ 57)
/-- The status of a version, 0 if it is 1.x; and x's digit. -/
def verW (v : Txt) : Int × UInt8 := match v with
  | [72, 84, 84, 80, 47, a, 46, b] => if digB a = true ∧ digB b = true then (if a = 49 then (0, b) else (505, 0)) else (400, 0)
  | _ => (400, 0)
def startH (h : Hd) (m : Txt) (t : Tg) (b : UInt8) : Hd := { h with started := true, method := m, target := t, minor := if b = 48 then h.minor else 1 }
def startW (h : Hd) (l : List Txt) : Hd × Int := match l with
  | [m, s, v] => if tokL m = false then (h, 400) else if (verW v).1 ≠ 0 then (h, (verW v).1) else match tgtL m s with
    | (some t, _) => (startH h m t (verW v).2, 0)
    | (none, c) => (h, if c = 9 then 414 else 400)
  | _ => (h, 400)
def fldW (h : Hd) (s : Txt) : Hd × Int := if (parseL s).1 ≠ 0 then (h, 400) else
  ({ h with fields := (addL h.fields [(⟨(parseL s).2.1.toArray⟩, ⟨(parseL s).2.2.toArray⟩)]).1 }, if (addL h.fields [(⟨(parseL s).2.1.toArray⟩, ⟨(parseL s).2.2.toArray⟩)]).2.2 ≠ 0 then 431 else 0)
def Hd.more (h : Hd) (n : Nat) : Hd := { h with bytes := h.bytes + n + 2 }
def Hd.long (h : Hd) : Int := if h.started = true then 431 else 414
def Hd.ends (h : Hd) : Hd := { h with how := (howW h.minor h.fields).1, whole := decide ((howW h.minor h.fields).2 = 0) }
def lineS (h : Hd) (s : Txt) : Hd × Int :=
  if 256 < s.length then (h, h.long) else
  if 1024 < h.bytes + s.length + 2 then (h.more s.length, h.long) else
  if h.started = false then (if s = [] then ({ h.more 0 with empty := h.empty + 1 }, if 4 < h.empty + 1 then 400 else 0) else startW (h.more s.length) (spcL s)) else
  if s = [] then ((h.more 0).ends, (howW h.minor h.fields).2) else fldW (h.more s.length) s
/-- The next line. -/
def lineW (h : Hd) (s : Txt) : Hd := if h.whole = false ∧ h.status = 0 then { (lineS h s).1 with status := (lineS h s).2 } else h
end Go.Proofs.YtiglfbimijnpcaaGreatDoor

namespace Go.Proofs.YtiglfbimijnpcaaGreatDoor
open Go.RowKit Go.Proofs

/-- Where a body in chunks is. -/
inductive RdP where
  | size (line : Txt)
  | data (left : Nat)
  | tail (k : Nat)
  | trail (line : Txt) (ends : Nat) (ts : List Fld)
inductive RdS where
  | at (body : Txt) (p : RdP)
  | whole (body : Txt)
  | bad (status : Int)
/-- A line without its end's first byte, if it has it. -/
def lineEnd (l : Txt) : Option Txt := if l.getLast? = some 13 then some l.dropLast else none
/-- How many bytes a line has with one more, but for an end's first byte. -/
def cntW (l : Txt) (c : UInt8) : Nat := if c = 13 then l.length else l.length + 1
def hexYes (c : UInt8) : Bool := decide (0 ≤ hexD c)
def hexP (s : Txt) : Txt := s.takeWhile hexYes
def sizeW (body s : Txt) : RdS :=
  if (hexP s).length < 1 ∨ 6 < (hexP s).length then .bad 400 else
  if paramsL (s.drop (hexP s).length) = none then .bad 400 else
  if 2048 < (body.length : Int) + (numH (hexP s)).1 then .bad 413 else
  if (numH (hexP s)).1 = 0 then .at body (.trail [] 0 []) else .at body (.data (numH (hexP s)).1.toNat)
def trailW (body s : Txt) (ends : Nat) (ts : List Fld) : RdS :=
  if s = [] then .whole body else
  if (parseL s).1 ≠ 0 then .bad 400 else
  if ts.length = 8 ∨ 512 < ends + s.length + 2 then .bad 431 else .at body (.trail [] (ends + s.length + 2) (ts ++ [(⟨(parseL s).2.1.toArray⟩, ⟨(parseL s).2.2.toArray⟩)]))
/-- A body in chunks takes a byte. -/
def rdW (body : Txt) (p : RdP) (c : UInt8) : RdS := match p with
  | .data n => .at (body ++ [c]) (if n = 1 then .tail 0 else .data (n - 1))
  | .tail k => if c = (if k = 0 then 13 else 10) then .at body (if k = 0 then .tail 1 else .size []) else .bad 400
  | .size l => if c = 10 then (match lineEnd l with
      | none => .bad 400
      | some s => sizeW body s) else if 64 < cntW l c then .bad 400 else .at body (.size (l ++ [c]))
  | .trail l e ts => if c = 10 then (match lineEnd l with
      | none => .bad 400
      | some s => trailW body s e ts) else if 256 < cntW l c ∨ 512 < e + cntW l c then .bad 431 else .at body (.trail (l ++ [c]) e ts)

/-- Where a request is. -/
inductive PrS where
  | idle
  | head (h : Hd) (l : Txt)
  | len (h : Hd) (b : Txt)
  | chunk (h : Hd) (b : Txt) (p : RdP)
  | whole (h : Hd) (b : Txt)
  | bad (status : Int)
def beginW (h : Hd) : PrS :=
  if h.how.kind = 0 ∨ (h.how.kind = 1 ∧ h.how.len = 0) then .whole h [] else
  if h.how.kind = 1 then .len h [] else .chunk h [] (.size [])
def headW (h : Hd) (l : Txt) (c : UInt8) : PrS :=
  if c = 10 then (match lineEnd l with
    | none => .bad 400
    | some s => if (lineW h s).status ≠ 0 then .bad (lineW h s).status else if (lineW h s).whole = true then beginW (lineW h s) else .head (lineW h s) []) else
  if 256 < cntW l c then .bad h.long else .head h (l ++ [c])
def chunkW (h : Hd) : RdS → PrS
  | .at b p => .chunk h b p
  | .whole b => .whole h b
  | .bad s => .bad s
/-- A request takes a byte. -/
def oneW (s : PrS) (c : UInt8) : PrS := match s with
  | .idle => headW Hd.new [] c
  | .head h l => headW h l c
  | .len h b => if ((b.length + 1 : Nat) : Int) = h.how.len then .whole h (b ++ [c]) else .len h (b ++ [c])
  | .chunk h b p => chunkW h (rdW b p c)
  | s => s
def PrS.done : PrS → Bool
  | .whole _ _ => true
  | .bad _ => true
  | _ => false
def PrS.phase : PrS → Int
  | .idle => 0
  | .head _ _ => 1
  | .len _ _ => 2
  | .chunk _ _ _ => 2
  | .whole _ _ => 3
  | .bad _ => 4
def PrS.status : PrS → Int
  | .bad s => s
  | _ => 0
/-- It takes bytes, up to where it is whole or refused; how many. -/
def feedW : PrS → Txt → PrS × Nat
  | s, [] => (s, 0)
  | s, c :: r => if s.done = true then (s, 0) else ((feedW (oneW s c) r).1, (feedW (oneW s c) r).2 + 1)
structure ReqW where
  method : Txt
  target : Tg
  minor : Int
  fields : List Fld
  body : Txt
  close : Bool
  expect : Bool
def reqW (h : Hd) (b : Txt) : ReqW := ⟨h.method, h.target, h.minor, h.fields, b, h.how.close, h.how.expect⟩

/-! What is always so. -/
theorem cnt_le {l : Txt} {c : UInt8} {n : Nat} (h : ¬ n < cntW l c) : (l ++ [c]).length ≤ n + 1 := by
  unfold cntW at h
  rw [List.length_append, List.length_singleton]
  split at h <;> omega
theorem feedW_done {s : PrS} (h : s.done = true) (t : Txt) : feedW s t = (s, 0) := by
  cases t with
  | nil => rfl
  | cons c r => rw [feedW, if_pos h]
theorem feedW_step {s : PrS} (h : s.done = false) (c : UInt8) (r : Txt) : feedW s (c :: r) = ((feedW (oneW s c) r).1, (feedW (oneW s c) r).2 + 1) := by
  rw [feedW, if_neg (by rw [h]; decide)]
end Go.Proofs.YtiglfbimijnpcaaGreatDoor

namespace Go.Proofs.YtiglfbimijnpcaaGreatDoor
open Go.RowKit Go.Proofs

/-- Block g, of type tt, holds a slice of a block of its own that holds just these fields, and behind it tl. -/
def FieldsIn (tt : TypeId) (tl : List Value) (w : World) (B g : Nat) (v : Value) (l : List Fld) : Prop :=
  Bk w g tt (v :: tl).toArray ∧ w.ownsRow B 65 2 v l.length (fldCells l) ∧ v.ownBlock ≠ some g
section
variable {tt : TypeId} {tl : List Value}
theorem FieldsIn.sm {S : Nat → Prop} {w w' : World} {B g : Nat} {v : Value} {l : List Fld} (h : FieldsIn tt tl w B g v l) (hs : Sm S w w') (hg : ¬ S g) (hv : ∀ b, v.ownBlock = some b → ¬ S b) : FieldsIn tt tl w' B g v l :=
  ⟨h.1.sm hs hg, own_row_sm h.2.1 hs hv, h.2.2⟩
theorem FieldsIn.no {w w' : World} {B g : Nat} {v : Value} {l : List Fld} (h : FieldsIn tt tl w B g v l) (hs : Sm No w w') : FieldsIn tt tl w' B g v l := h.sm hs (fun h => h) (fun _ _ h => h)
theorem FieldsIn.len {w : World} {B g : Nat} {v : Value} {l : List Fld} (h : FieldsIn tt tl w B g v l) : ∃ A c, v = .slice A l.length c := by
  rcases own_row_form h.2.1 with ⟨rfl, h0, _⟩ | ⟨b, cap, rfl, _⟩
  · exact ⟨none, 0, by rw [h0]⟩
  · exact ⟨_, _, rfl⟩
theorem FieldsIn.row {w : World} {B g : Nat} {v : Value} {l : List Fld} (h : FieldsIn tt tl w B g v l) : ∃ A c, v = .slice A l.length c ∧ FRow w A l := by
  rcases own_row_form h.2.1 with ⟨rfl, h0, _⟩ | ⟨b, cap, rfl, _, _, hb, _, hc, _⟩
  · exact ⟨none, 0, by rw [h0], fun k hk => absurd hk (by omega)⟩
  · refine ⟨_, _, rfl, fun k hk => ?_⟩
    obtain ⟨h1, h2⟩ := fldCells_at l k hk
    exact ⟨b, 0, rfl, hb, by simpa using hc _ _ h1, by simpa using hc _ _ h2⟩
def RAddPostQ (tt : TypeId) (tl : List Value) (w : World) (B g : Nat) (v0 : Value) (cur add : List Fld) (e : Ending) (w' : World) : Prop :=
  ∃ v, e = .returned (.tuple #[.int .i64 ((addL cur add).2.1 : Int), .int .i64 (addL cur add).2.2]) ∧ FieldsIn tt tl w' B g v (addL cur add).1 ∧ (addL cur add).1.length ≤ 24 ∧ Sm (TouchF g v0) w w' ∧ Follows w v0 v

def RAddRelQ (tt : TypeId) (tl : List Value) (w : World) (B g : Nat) (v0 : Value) (cur add : List Fld) (i : Value) (wr : World) : Prop :=
  ∃ (k : Nat) (v : Value) (l : List Fld), k ≤ add.length ∧ i = .int .i64 k ∧ addL cur add = ((addL l (add.drop k)).1, (addL l (add.drop k)).2.1 + k, (addL l (add.drop k)).2.2) ∧ l.length ≤ 24 ∧
    FieldsIn tt tl wr B g v l ∧ Sm (TouchF g v0) w wr ∧ Follows w v0 v

set_option maxHeartbeats 4000000 in
theorem rAddQ_any (w : World) (B g : Nat) (v0 : Value) (cur add : List Fld) (A : Option Addr) (c : Nat) (h0 : FieldsIn tt tl w B g v0 cur) (hcur : cur.length ≤ 24) (hA : FRow w A add)
    (hdis : 0 < add.length → ∀ a, A = some a → ¬ TouchF g v0 a.block) (hshort : Short add) (hadd : add.length ≤ 1000000) (hB : B ≤ w.heap.size) :
    Calls Tryz.prog 52 #[.pointer (some ⟨g, 0, none⟩), .slice A add.length c] w (RAddPostQ tt tl w B g v0 cur add) := by
  have H0 := Lib.hid (And.intro h0 (And.intro hA hdis))
  have HS := Lib.hid hshort
  clear h0 hA hdis hshort
  go_enter Tryz.func52, Tryz.ntmps52
  go_wp2_with fail
  go_loopw [6] (fun i wr => RAddRelQ tt tl w B g v0 cur add i wr) (fun i _ => add.length - (intOf i).toNat)
  case atStart => exact ⟨0, v0, cur, Nat.zero_le _, rfl, by simp, hcur, H0.out.1, Sm.refl _ _, Or.inl rfl⟩
  case round =>
    obtain ⟨k, v, l, hk, rfl, hL, hl, hF, hs, hfo⟩ := hrel
    have HL := Lib.hid hL
    have HF := Lib.hid (And.intro hF (And.intro hs hfo))
    clear hL hF hs hfo
    by_cases hlt : k < add.length
    · obtain ⟨bb, off, rfl, hbb, r0, r1⟩ := (H0.out.2.1.sm HF.out.2.1 (H0.out.2.2 (by omega))) k hlt
      obtain ⟨s0, s1⟩ := HS.out _ (List.getElem_mem hlt)
      obtain ⟨nm, hnm⟩ : ∃ x, add[k].1 = x := ⟨_, rfl⟩
      obtain ⟨vl, hvl⟩ : ∃ x, add[k].2 = x := ⟨_, rfl⟩
      rw [hnm] at r0 s0
      rw [hvl] at r1 s1
      obtain ⟨f, hf⟩ : ∃ f, isF nm.data.toList vl.data.toList = f := ⟨_, rfl⟩
      have hx : isX add[k] = f := by unfold isX; rw [hnm, hvl]; exact hf
      have HX := Lib.hid (And.intro hx (And.intro hnm hvl))
      have HFF := Lib.hid hf
      clear hx hnm hvl hf
      go_wp2_with fail
      refine (rIs_say HFF s0 s1 _).mono ?_
      rintro e w1 ⟨rfl, hs1⟩
      have hsm := hs1
      have r2 := hs1.cell hbb r0
      have r3 := hs1.cell hbb r1
      have hbb1 := Nat.lt_of_lt_of_le hbb hs1.size
      have hF1 := HF.out.1.no hsm
      have hS1 := HF.out.2.1.trans hsm (fun _ _ h => h.elim)
      have hfo := HF.out.2.2
      cases f
      · have hend : addL cur add = (l, k, 8) := by rw [HL.out, addL_not hlt HX.out.1]; simp
        have HE := Lib.hid hend
        clear hend
        go_wp2_with fail
        exact bodyPost_ret (v := .tuple #[.int .i64 k, .int .i64 8]) (by simp [results, Tryz.results52, go_sem]) rfl
          ⟨v, by rw [HE.out], by rw [HE.out]; exact hF1, by rw [HE.out]; exact hl, hS1, hfo⟩
      · obtain ⟨A', c', rfl⟩ := hF1.len
        have cg := hF1.1.at 0 (v := .slice A' l.length c') rfl
        have zg := hF1.1.fz 0
        by_cases hfull : 24 ≤ l.length
        · have hend : addL cur add = (l, k, 3) := by rw [HL.out, addL_full hlt HX.out.1 hfull]; simp
          have HE := Lib.hid hend
          clear hend
          go_wp2_with fail
          exact bodyPost_ret (v := .tuple #[.int .i64 k, .int .i64 3]) (by simp [results, Tryz.results52, go_sem]) rfl
            ⟨_, by rw [HE.out], by rw [HE.out]; exact hF1, by rw [HE.out]; exact hl, hS1, hfo⟩
        · have hstep := addL_step hlt HX.out.1 hfull
          have HST := Lib.hid hstep
          have hfull2 : l.length < 24 := by omega
          clear hstep hfull
          have HR := Lib.hid (And.intro hF1 (And.intro hS1 hfo))
          have HOwn := Lib.hid ((hF1.2.1.alloc (.cells #[.string nm, .string vl] 65)).drew)
          have HBlk := Lib.hid (Bk.new w1 65 #[.string nm, .string vl]).drew
          have HKb := Lib.hid ((hF1.1.alloc (.cells #[.string nm, .string vl] 65)).drew)
          have HNe := Lib.hid (show ¬ (Value.slice A' l.length c').ownBlock = some g from hF1.2.2)
          have HBB := Lib.hid (show B ≤ ((w1.alloc (.cells #[.string nm, .string vl] 65)).drew).heap.size by
            have := hS1.size
            simp; omega)
          have hgl := hF1.1.lt
          clear hF1 hS1 hfo hsm
          go_wp2_with fail
          go_region_law
            ((refine step_push (by rfl) _ _ 27 65 (by rfl) Tryz.underlying27 _ 2 32 infoFieldB rfl (by decide) (by decide) B l.length _ (fldCells l) (by rfl) HOwn.out w1.heap.size #[.string nm, .string vl] (by rfl) HBlk.out rfl (by simp [Value.oneCell']) (by omega) HBB.out ?_; intro r cap w2 hown2 hs2 hr2; have hb2 := HKb.out.sm hs2 HNe.out; have cg2 := hb2.at 0 (v := .slice A' l.length c') rfl; have zg2 := hb2.fz 0))
          all_goals
            have hne : r ≠ g := by
              rcases hr2 with e | e
              · rintro rfl; exact HNe.out e
              · simp at e; omega
            have hs3 := (Sm.refl (fun x => x = g) w2).set1 0 (.slice (some ⟨r, 0, none⟩) (l.length + 1) cap)
            have hb3 : Bk (w2.setCell ⟨g, 0, none⟩ (.slice (some ⟨r, 0, none⟩) (l.length + 1) cap)) g tt (.slice (some ⟨r, 0, none⟩) (l.length + 1) cap :: tl).toArray := (hb2.set 0 _).eq (by simp)
            have ho3 := own_row_sm hown2 hs3 (fun b hb => by injection hb with hb; subst hb; exact hne)
            have hF3 : FieldsIn tt tl (w2.setCell ⟨g, 0, none⟩ (.slice (some ⟨r, 0, none⟩) (l.length + 1) cap)) B g (.slice (some ⟨r, 0, none⟩) (l.length + 1) cap) (l ++ [add[k]]) :=
              ⟨hb3, by rw [fldCells_snoc, HX.out.2.1, HX.out.2.2, List.length_append]; exact ho3, by simp [Value.ownBlock]; exact hne⟩
            have hS2 := ((HR.out.2.1.alloc (.cells #[.string nm, .string vl] 65)).drew).trans hs2 (fun b hb e => by
              rcases HR.out.2.2 with f | ⟨q, f, hq⟩
              · exact Or.inr (f ▸ e)
              · rw [f] at e; injection e with e; omega)
            have hS3 := hS2.trans hs3 (fun b _ e => Or.inl e)
            have hf3 : Follows w v0 (.slice (some ⟨r, 0, none⟩) (l.length + 1) cap) := by
              rcases hr2 with e | e
              · rcases HR.out.2.2 with f | ⟨q, f, hq⟩
                · exact Or.inl (by rw [← f, e]; rfl)
                · rw [e] at f; injection f with f; exact Or.inr ⟨r, rfl, by omega⟩
              · have := HR.out.2.1.size
                simp at e
                exact Or.inr ⟨r, rfl, by omega⟩
            go_wp2_with fail
            exact ⟨⟨k + 1, _, l ++ [add[k]], by omega, by go_num, by rw [HL.out, HST.out]; simp; omega, by simp; omega, hF3, hS3, hf3⟩, by simp [intOf]; omega⟩
    · have hend : addL cur add = (l, add.length, 0) := by
        have e : k = add.length := by omega
        rw [HL.out, e, List.drop_length]; simp [addL]
      have HE := Lib.hid hend
      clear hend
      go_wp2_with fail
      exact bodyPost_ret (v := .tuple #[.int .i64 add.length, .int .i64 0]) (by simp [results, Tryz.results52, go_sem]) rfl
        ⟨v, by rw [HE.out], by rw [HE.out]; exact HF.out.1, by rw [HE.out]; exact hl, HF.out.2.1, HF.out.2.2⟩


set_option maxHeartbeats 4000000 in
theorem rValuesQ_any (w : World) (B g : Nat) (v : Value) (l : List Fld) (name : ByteArray) (hF : FieldsIn tt tl w B g v l) (hl : l.length ≤ 24) (hshort : Short l) (hn : name.size ≤ 1000000) :
    Calls Tryz.prog 94 #[.pointer (some ⟨g, 0, none⟩), .string name] w (ValuesPost w l name) := by
  obtain ⟨A, c, rfl, hR⟩ := hF.row
  have hgb := hF.1.lt
  have cg := hF.1.at 0 (v := .slice A l.length c) rfl
  have HR := Lib.hid hR
  have HS := Lib.hid hshort
  clear hR hshort hF
  go_enter Tryz.func94, Tryz.ntmps94
  go_wp2_with fail
  go_loopw [5, 6] (fun acc i wr => ValRel w l name acc i wr) (fun _ i _ => l.length - (intOf i).toNat)
  case atStart => exact ⟨0, Nat.zero_le _, rfl, World.ownsRow_nil _ _ _ 1, Sm.refl _ _⟩
  case round =>
    obtain ⟨k, hk, rfl, hO, hs⟩ := hrel
    have cg' := hs.cell hgb cg
    have HO := Lib.hid (And.intro hO hs)
    clear hO hs
    by_cases hlt : k < l.length
    · obtain ⟨bb, off, hA, hbb, r0, r1⟩ := (HR.out.sm HO.out.2 (fun _ _ h => h)) k hlt
      subst hA
      obtain ⟨s0, s1⟩ := HS.out _ (List.getElem_mem hlt)
      have hsn := valuesL_snoc l name k hlt
      obtain ⟨nm, hnm⟩ : ∃ x, l[k].1 = x := ⟨_, rfl⟩
      obtain ⟨vl, hvl⟩ : ∃ x, l[k].2 = x := ⟨_, rfl⟩
      have k1 : (0 : Int) ≤ (k : Int) := by omega
      have k2 : (k : Int) < (l.length : Int) := by omega
      rw [hnm] at r0 s0 hsn
      rw [hvl] at r1 hsn
      obtain ⟨f, hf⟩ : ∃ f, sameL nm.data.toList name.data.toList = f := ⟨_, rfl⟩
      rw [hf] at hsn
      have HF := Lib.hid hf
      have HN := Lib.hid hsn
      clear hnm hvl hf hsn
      go_wp2_with fail
      refine (rSame_say HF s0 hn _).mono ?_
      rintro e w1 ⟨rfl, hs1⟩
      have hsm := hs1
      have r2 := hs1.cell hbb r0
      have r3 := hs1.cell hbb r1
      have cg2 := HO.out.2.trans hs1 (fun _ _ h => h) |>.cell hgb cg
      have hS1 := HO.out.2.trans hsm (fun _ _ h => h)
      have hO1 : OwnS w1 w.heap.size u5 (valuesL (l.take k) name) := own_row_sm HO.out.1 hsm (fun _ _ h => h)
      cases f
      · have HX := Lib.hid (And.intro hS1 hO1)
        clear hsm hS1 hO1 hs1
        go_wp2_with fail
        exact ⟨⟨k + 1, by omega, by go_num, by rw [HN.out]; exact HX.out.2, HX.out.1⟩, by simp [intOf]; omega⟩
      · have hkl : (valuesL (l.take k) name).length ≤ 1000000 := by
          have h1 := List.length_filter_le (fun x : Fld => sameL x.1.data.toList name.data.toList) (l.take k)
          have h2 := List.length_take_le k l
          unfold valuesL
          rw [List.length_map]
          omega
        have hbb1 : w.heap.size ≤ w1.heap.size := hS1.size
        have HX := Lib.hid (And.intro hS1 hO1)
        clear hsm hS1 hO1 hs1
        go_wp2_with (refine wpList_push rfl _ _ 82 9 rfl Tryz.underlying82 _ 1 16 infoStr rfl (by decide) (by decide) w.heap.size _ u5 _ rfl (World.ownsRow.alloc HX.out.2 _) w1.heap.size #[.string vl] rfl (Bk.new w1 _ _) rfl (by simp [Value.oneCell']) hkl (by simp; omega) ?_; intro v' w2 hown2 hs2 hv2)
        have hO3 : OwnS w2 w.heap.size v' (valuesL (l.take (k + 1)) name) := by
          rw [HN.out]
          unfold OwnS
          simpa using hown2
        have hS3 : Sm No w w2 := (HX.out.1.alloc (.cells #[.string vl] 9)).trans hs2 (fun b hb e => by
          have := (World.ownsRow.lt HX.out.2 b e).1
          omega)
        exact ⟨⟨k + 1, by omega, by go_num, hO3, hS3⟩, by simp [intOf]; omega⟩
    · have ha : l.take k = l := List.take_of_length_le (by omega)
      have HA := Lib.hid ha
      clear ha
      go_wp2_with fail
      go_ret
      exact ⟨_, rfl, by have := HO.out.1; rw [HA.out] at this; exact this, HO.out.2⟩

set_option maxHeartbeats 4000000 in
theorem rGetQ_any (w : World) (B g : Nat) (v : Value) (l : List Fld) (name : ByteArray) (hF : FieldsIn tt tl w B g v l) (hl : l.length ≤ 24) (hshort : Short l) (hn : name.size ≤ 1000000) :
    Calls Tryz.prog 53 #[.pointer (some ⟨g, 0, none⟩), .string name] w fun e w' => ∃ t : ByteArray, t.data.toList = getL l name ∧ e = .returned (.string t) ∧ Sm No w w' := by
  have HV := Lib.hid (rValuesQ_any w B g v l name hF hl hshort hn)
  have hvl := valuesL_len l name
  have hvs := valuesL_short (name := name) hshort
  have HS := Lib.hid hvs
  obtain ⟨xs, hxs⟩ : ∃ xs, valuesL l name = xs := ⟨_, rfl⟩
  unfold ValuesPost at HV
  rw [hxs] at HV hvl HS
  have HG := Lib.hid (show getL l name = Lib.join (xs.map (·.data.toList)) sep by unfold getL; rw [hxs])
  clear hF hshort hvs hxs
  go_enter Tryz.func53, Tryz.ntmps53
  go_wp2_with fail
  refine HV.out.mono ?_
  rintro e w1 ⟨vs, rfl, hO, hs⟩
  obtain ⟨A, c, rfl, hR⟩ := hO.row
  have HR := Lib.hid (And.intro hR hs)
  clear hO hs hR
  go_wp2_with fail
  go_loop [6, 7] (fun s i => GetRel xs s i) (fun _ i => xs.length - (intOf i).toNat)
  case atStart => exact ⟨0, ⟨#[]⟩, Nat.zero_le _, rfl, rfl, rfl, Nat.zero_le _⟩
  case round =>
    obtain ⟨k, t, hk, rfl, rfl, htd, hts⟩ := hrel
    have HT := Lib.hid htd
    clear htd
    by_cases hlt : k < xs.length
    · obtain ⟨bb, off, hAe, hbb, r0⟩ := HR.out.1 k hlt
      subst hAe
      have x0 := HS.out _ (List.getElem_mem hlt)
      have hj := join_take (ys := xs.map (·.data.toList)) (k := k) (y := xs[k].data.toList) sep (by simp [hlt])
      rw [← List.map_take, ← List.map_take, ← HT.out] at hj
      obtain ⟨x, hx⟩ : ∃ x, xs[k] = x := ⟨_, rfl⟩
      rw [hx] at r0 x0 hj
      have HJ := Lib.hid hj
      have k1 : (0 : Int) ≤ (k : Int) := by omega
      have k2 : (k : Int) < (xs.length : Int) := by omega
      have z1 : t.size + 2 ≤ 40000000 := by omega
      have z2 : t.size + 2 + x.size ≤ 40000000 := by omega
      have z3 : t.size + x.size ≤ 40000000 := by omega
      clear hx hj
      by_cases hk0 : k = 0
      · subst hk0
        rw [Nat.add_zero] at r0
        have ht0 : t.data.toList = [] := HT.out
        have hR2 : GetRel xs (.string (t ++ x)) (.int .i64 ((0 + 1 : Nat) : Int)) := by
          refine ⟨0 + 1, _, hlt, rfl, rfl, ?_, ?_⟩
          · rw [HJ.out, if_pos rfl, tlist_append, ht0]; rfl
          · rw [ByteArray.size_append]; omega
        have HR2 := Lib.hid hR2
        clear hR2 ht0
        go_wp2_with fail
        exact ⟨HR2.out, by simp [intOf]; omega⟩
      · have hR2 : GetRel xs (.string (t ++ (⟨#[44, 32]⟩ : ByteArray) ++ x)) (.int .i64 ((k + 1 : Nat) : Int)) := by
          refine ⟨k + 1, _, hlt, rfl, rfl, ?_, ?_⟩
          · rw [HJ.out, if_neg hk0, tlist_append, tlist_append]; rfl
          · rw [ByteArray.size_append, ByteArray.size_append]; have : (⟨#[44, 32]⟩ : ByteArray).size = 2 := rfl; omega
        have HR2 := Lib.hid hR2
        have k3 : (0 : Int) < (k : Int) := by omega
        clear hR2
        go_wp2_with fail
        exact ⟨HR2.out, by simp [intOf]; omega⟩
    · have ha : xs.take k = xs := List.take_of_length_le (by omega)
      have h1 := HT.out
      rw [ha, ← HG.out] at h1
      have H1 := Lib.hid h1
      clear h1 ha
      go_wp2_with fail
      go_ret
      exact ⟨t, H1.out, rfl, HR.out.2⟩

end
end Go.Proofs.YtiglfbimijnpcaaGreatDoor

namespace Go.Proofs.YtiglfbimijnpcaaGreatDoor
open Go.RowKit Go.Proofs

def fsz (l : List Fld) : Nat := (l.map fun x => x.1.size + x.2.size).sum
/-- Fields as a head can have them. -/
structure LightF (l : List Fld) : Prop where
  len : l.length ≤ 24
  size : fsz l ≤ 1100
theorem fsz_mem {l : List Fld} {x : Fld} (h : x ∈ l) : x.1.size + x.2.size ≤ fsz l := by
  induction l with
  | nil => cases h
  | cons y l ih =>
    unfold fsz at ih ⊢
    rw [List.map_cons, List.sum_cons]
    rcases List.mem_cons.1 h with rfl | h
    · omega
    · have := ih h; omega
theorem fsz_snoc (l : List Fld) (x : Fld) : fsz (l ++ [x]) = fsz l + (x.1.size + x.2.size) := by unfold fsz; simp
theorem LightF.short {l : List Fld} (h : LightF l) : Short l := fun x hx => by have := fsz_mem hx; have := h.size; omega
theorem values_cost (l : List Fld) (nm : ByteArray) : costL (valuesL l nm) ≤ fsz l + l.length := by
  induction l with
  | nil => exact Nat.zero_le _
  | cons y l ih =>
    have e : fsz (y :: l) = y.1.size + y.2.size + fsz l := by unfold fsz; rw [List.map_cons, List.sum_cons]
    rw [e, List.length_cons]
    unfold valuesL at ih ⊢
    rw [List.filter_cons]
    split
    · have e2 : ∀ L : List ByteArray, costL (y.2 :: L) = 1 + y.2.size + costL L := fun L => by unfold costL; rw [List.map_cons, List.sum_cons]
      rw [List.map_cons, e2]; omega
    · omega
theorem LightF.light {l : List Fld} (h : LightF l) (nm : ByteArray) : Light9 (valuesL l nm) := light_of (by have := values_cost l nm; have := h.len; have := h.size; omega)

section
variable {tt : TypeId} {tl : List Value}
set_option maxRecDepth 100000 in
set_option maxHeartbeats 4000000 in
theorem rHostF_any (w : World) (B g : Nat) (v : Value) (l : List Fld) (minor : Int) (hm : minor = 0 ∨ minor = 1) (hF : FieldsIn tt tl w B g v l) (hL : LightF l) :
    Calls Tryz.prog 160 #[.int .i64 minor, .pointer (some ⟨g, 0, none⟩)] w fun e w' => e = .returned (.bool (hostW minor (valuesL l nHost))) ∧ Sm No w w' := by
  have HV := rValuesQ_any w B g v l nHost hF hL.len hL.short (by decide)
  have hsz := (hL.light nHost).size
  unfold ValuesPost at HV
  obtain ⟨xs, hxs⟩ : ∃ xs, valuesL l nHost = xs := ⟨_, rfl⟩
  rw [hxs] at HV hsz ⊢
  have HV := Lib.hid HV
  clear hF hL hxs
  match xs, HV, hsz with
  | [], HV, hsz =>
    rcases hm with rfl | rfl
    all_goals
      go_enter Tryz.func160, Tryz.ntmps160
      go_wp2_with fail
      refine HV.out.mono ?_
      rintro e w1 ⟨vs, rfl, hO, hs⟩
      obtain ⟨A, c, rfl, hR⟩ := hO.row
      have HS := Lib.hid hs
      clear hs hO hR
      go_wp2_with fail
      go_ret
      exact ⟨rfl, HS.out⟩
  | [x], HV, hsz =>
    have hx := hsz x (by simp)
    obtain ⟨f, hf⟩ : ∃ f, hostL (txt x) = f := ⟨_, rfl⟩
    have e0 : hostW minor [x] = (x.size == 0 || f) := by rw [← hf]; rfl
    rw [e0]
    have HH := Lib.hid hf
    clear hsz hf e0
    by_cases hz : x.size = 0
    · have z1 : x.toList = [] := by rw [ByteArray.toList_eq]; exact List.eq_nil_of_length_eq_zero (by simpa using hz)
      have e1 : (x.size == 0 || f) = true := by simp [hz]
      rw [e1]
      clear hz e1
      go_enter Tryz.func160, Tryz.ntmps160
      go_wp2_with fail
      refine HV.out.mono ?_
      rintro e w1 ⟨vs, rfl, hO, hs⟩
      obtain ⟨A, c, rfl, hR⟩ := hO.row
      obtain ⟨bb, off, rfl, hbb, r0⟩ := hR 0 (by simp)
      rw [Nat.add_zero] at r0
      rw [List.getElem_cons_zero] at r0
      have HS := Lib.hid hs
      clear hs hO hR
      go_wp2_with fail
      go_ret
      exact ⟨rfl, HS.out⟩
    · have z1 : ¬ x.toList = [] := by rw [ByteArray.toList_eq]; exact fun e => hz (by have := congrArg List.length e; simpa using this)
      have z2 : x.toList.isEmpty = false := by
        cases h : x.toList with
        | nil => exact absurd h z1
        | cons => rfl
      have e1 : (x.size == 0 || f) = f := by simp [hz]
      rw [e1]
      clear hz e1
      go_enter Tryz.func160, Tryz.ntmps160
      go_wp2_with fail
      refine HV.out.mono ?_
      rintro e w1 ⟨vs, rfl, hO, hs⟩
      obtain ⟨A, c, rfl, hR⟩ := hO.row
      obtain ⟨bb, off, rfl, hbb, r0⟩ := hR 0 (by simp)
      rw [Nat.add_zero] at r0
      rw [List.getElem_cons_zero] at r0
      have HS := Lib.hid hs
      clear hs hO hR
      go_wp2_with fail
      refine (host_say HH (by omega) _).mono ?_
      rintro e w2 ⟨rfl, rfl⟩
      go_wp2_with fail
      go_ret
      exact ⟨rfl, HS.out⟩
  | x :: y :: r, HV, hsz =>
    have e0 : hostW minor (x :: y :: r) = false := rfl
    rw [e0]
    obtain ⟨n, hn⟩ : ∃ n, (x :: y :: r).length = n := ⟨_, rfl⟩
    have hn2 : 1 < n := by rw [← hn]; simp
    have hn3 : (1 : Int) < (n : Int) := by omega
    have HN := Lib.hid hn
    clear hsz e0 hn
    go_enter Tryz.func160, Tryz.ntmps160
    go_wp2_with fail
    refine HV.out.mono ?_
    rintro e w1 ⟨vs, rfl, hO, hs⟩
    obtain ⟨A, c, rfl, hR⟩ := hO.row
    rw [HN.out]
    have HS := Lib.hid hs
    clear hs hO hR
    go_wp2_with fail
    go_ret
    exact ⟨rfl, HS.out⟩

theorem OwnT.row2 {w : World} {B : Nat} {v : Value} {r : List (List UInt8)} (h : OwnT w B v r) : ∃ A c, v = .slice A r.length c ∧ RowC w A (r.map strV) := by
  obtain ⟨A, c, hv, hR, _⟩ := own_rowC h
  exact ⟨A, c, hv, hR⟩
def CodRel (w : World) (r : List Txt) (i : Value) (wr : World) : Prop := ∃ k : Nat, k + 1 ≤ r.length ∧ i = .int .i64 k ∧ Sm No w wr ∧ (r.take k).any (· == sChunked) = false
theorem any_takeC {r : List Txt} {k : Nat} (h : k < r.length) (hn : (r.take k).any (· == sChunked) = false) : (r.take (k + 1)).any (· == sChunked) = (r[k] == sChunked) := by
  rw [List.take_succ_eq_append_getElem h, List.any_append, hn]; simp
theorem any_moreC {r : List Txt} {k m : Nat} (h : k ≤ m) (hy : (r.take k).any (· == sChunked) = true) : (r.take m).any (· == sChunked) = true := by
  rw [List.any_eq_true] at hy ⊢
  obtain ⟨x, hx, e⟩ := hy
  exact ⟨x, (List.take_subset_take_left r h) hx, e⟩
theorem last_atC {r : List Txt} (h : 0 < r.length) : r.getLast? = some (r[r.length - 1]) := by
  rw [List.getLast?_eq_getElem?, List.getElem?_eq_getElem (by omega)]
theorem codT_no {l : List Txt} (h : ¬ l.getLast? = some sChunked) : codT l = 400 := by unfold codT; rw [if_neg h]
theorem codT_one {l : List Txt} (h : l.getLast? = some sChunked) (h1 : l.length = 1) : codT l = 0 := by unfold codT; rw [if_pos h, if_pos h1]
theorem codT_two {l : List Txt} (h : l.getLast? = some sChunked) (h1 : ¬ l.length = 1) (h2 : l.dropLast.any (· == sChunked) = true) : codT l = 400 := by unfold codT; rw [if_pos h, if_neg h1, if_pos h2]
theorem codT_other {l : List Txt} (h : l.getLast? = some sChunked) (h1 : ¬ l.length = 1) (h2 : l.dropLast.any (· == sChunked) = false) : codT l = 501 := by unfold codT; rw [if_pos h, if_neg h1, if_neg (by rw [h2]; decide)]
theorem codW_left {m : Int} {cl te : List ByteArray} (h : m = 0 ∨ 0 < cl.length) : codW m cl te = 400 := by unfold codW; rw [if_pos h]
theorem codW_right {m : Int} {cl te : List ByteArray} (h : ¬ (m = 0 ∨ 0 < cl.length)) : codW m cl te = match tokensL (bytesL te) with
    | none => 400
    | some l => codT l := by unfold codW; (rw [if_neg h]) <;> rfl

set_option maxRecDepth 100000 in
set_option maxHeartbeats 8000000 in
theorem rCoding_any (w : World) (B g : Nat) (v : Value) (l : List Fld) (minor : Int) (hm : minor = 0 ∨ minor = 1) (hF : FieldsIn tt tl w B g v l) (hL : LightF l) :
    Calls Tryz.prog 161 #[.int .i64 minor, .pointer (some ⟨g, 0, none⟩)] w fun e w' => e = .returned (.int .i64 (codW minor (valuesL l nLen) (valuesL l nCod))) ∧ Sm No w w' := by
  rcases hm with rfl | rfl
  · rw [codW_left (Or.inl rfl)]
    clear hF hL
    go_enter Tryz.func161, Tryz.ntmps161
    go_wp2_with fail
    go_ret
    exact ⟨rfl, Sm.refl _ _⟩
  have HV := rValuesQ_any w B g v l nLen hF hL.len hL.short (by decide)
  have HV2 := Lib.hid (fun (w1 : World) (h : Sm No w w1) => rValuesQ_any w1 B g v l nCod (hF.no h) hL.len hL.short (by decide))
  have HLt := Lib.hid (hL.light nCod)
  unfold ValuesPost at HV HV2
  obtain ⟨xs, hxs⟩ : ∃ xs, valuesL l nLen = xs := ⟨_, rfl⟩
  obtain ⟨ys, hys⟩ : ∃ ys, valuesL l nCod = ys := ⟨_, rfl⟩
  rw [hxs] at HV ⊢
  rw [hys] at HV2 HLt ⊢
  obtain ⟨n, hn⟩ : ∃ n, xs.length = n := ⟨_, rfl⟩
  have HV := Lib.hid (And.intro HV hn)
  obtain ⟨m, hmm⟩ : ∃ m, ys.length = m := ⟨_, rfl⟩
  have HM := Lib.hid hmm
  clear hF hL hxs hys hmm
  by_cases hn0 : 0 < n
  · rw [codW_left (Or.inr (by omega))]
    have i1 : (0 : Int) < (n : Int) := by omega
    clear hn
    go_enter Tryz.func161, Tryz.ntmps161
    go_wp2_with fail
    refine HV.out.1.mono ?_
    rintro e w1 ⟨vs, rfl, hO, hs⟩
    obtain ⟨A, c, rfl, hR⟩ := hO.row
    rw [HV.out.2]
    have HS := Lib.hid hs
    clear hs hO hR
    go_wp2_with fail
    go_ret
    exact ⟨rfl, HS.out⟩
  rw [codW_right (by omega)]
  have i1 : ¬ (0 : Int) < (n : Int) := by omega
  obtain ⟨R, hR⟩ : ∃ R, codW 1 xs ys = R := ⟨_, rfl⟩
  rw [codW_right (by omega)] at hR
  rw [hR]
  have HR := Lib.hid hR
  clear hn hR
  go_enter Tryz.func161, Tryz.ntmps161
  go_wp2_with fail
  refine HV.out.1.mono ?_
  rintro e w1 ⟨vs, rfl, hO, hs⟩
  obtain ⟨A, c, rfl, hRw⟩ := hO.row
  rw [HV.out.2]
  have HS := Lib.hid hs
  clear hs hO hRw
  go_wp2_with fail
  refine (HV2.out w1 HS.out).mono ?_
  rintro e w2 ⟨vs, rfl, hO, hs⟩
  obtain ⟨A2, c2, rfl, hRw⟩ := hO.row
  have HT := Lib.hid (rTokens_any w2 A2 c2 ys hRw (by have := HLt.out.len; omega) (fun s hs => by have := HLt.out.size s hs; omega) (by have := HLt.out.rest; omega))
  unfold TokPost at HT
  rw [HM.out] at HT ⊢
  have HS2 := Lib.hid (HS.out.trans hs (fun _ _ h => h))
  clear hs hO hRw
  go_wp2_with fail
  refine HT.out.mono ?_
  rintro e w3 (⟨r, vT, hr, rfl, hO, hs⟩ | ⟨hr, rfl, hs⟩)
  · obtain ⟨A3, c3, rfl, hRw⟩ := hO.row2
    have hrl := HLt.out.many hr
    have HRR := Lib.hid (show codT r = R from by have h := HR.out; rw [hr] at h; exact h)
    have HS3 := Lib.hid (HS2.out.trans hs (fun _ _ h => h))
    have HRow := Lib.hid hRw
    clear hs hO hr hRw
    by_cases hr0 : r.length = 0
    · have hR4 : R = 400 := by rw [← HRR.out, codT_no (by rw [List.eq_nil_of_length_eq_zero hr0]; simp)]
      subst hR4
      rw [hr0]
      clear hr0
      go_wp2_with fail
      go_ret
      exact ⟨rfl, HS3.out⟩
    · have hlast : r.length - 1 < r.length := by omega
      obtain ⟨bb, off, rfl, hbb, r0⟩ := HRow.out.at (j := r.length - 1) (u := strV (r[r.length - 1])) (by simp [hlast])
      obtain ⟨y, hy⟩ : ∃ y, r[r.length - 1] = y := ⟨_, rfl⟩
      rw [hy, strV] at r0
      have HY := Lib.hid (show r.getLast? = some y from by rw [last_atC (by omega), hy])
      obtain ⟨yb, hyb⟩ : ∃ yb : ByteArray, (⟨y.toArray⟩ : ByteArray) = yb := ⟨_, rfl⟩
      have hyt : yb.toList = y := by rw [ByteArray.toList_eq, ← hyb]
      rw [hyb] at r0
      have k1 : ((r.length - 1 : Nat) : Int) = (r.length : Int) - 1 := by omega
      have k0 : (0 : Int) < (r.length : Int) := by omega
      have k2 : (0 : Int) ≤ (r.length : Int) - 1 := by omega
      have k3 : ((r.length : Int) - 1).toNat = r.length - 1 := by omega
      have k4 : ¬ ((r.length : Int) = 0) := by omega
      clear hy hyb k1
      by_cases hch : y = sChunked
      · have e1 : yb.toList = [99, 104, 117, 110, 107, 101, 100] := hyt.trans hch
        have HC := Lib.hid (show r.getLast? = some sChunked from by rw [HY.out, hch])
        clear hyt hch
        by_cases h1 : r.length = 1
        · have hR0 : R = 0 := by rw [← HRR.out, codT_one HC.out h1]
          subst hR0
          rw [h1] at r0 ⊢
          have r00 : w3.cell? ⟨bb, off, none⟩ = some (.string yb) := by simpa using r0
          clear r0
          clear h1 k0 k2 k3 k4 hr0 hlast
          go_wp2_with fail
          go_ret
          exact ⟨rfl, HS3.out⟩
        · have k5 : ¬ ((r.length : Int) = 1) := by omega
          go_wp2_with fail
          go_loopw [7] (fun i wr => CodRel w3 r i wr) (fun i _ => r.length - (intOf i).toNat)
          case atStart => exact ⟨0, by omega, rfl, Sm.refl _ _, rfl⟩
          case round =>
            obtain ⟨k, hk, rfl, hsm, hno⟩ := hrel
            have HS := Lib.hid (And.intro hsm hno)
            clear hsm hno r0
            by_cases hlt : k + 1 < r.length
            · have hkr : k < r.length := by omega
              obtain ⟨b2, o2, hA, hb2, r1⟩ := (HRow.out.no HS.out.1).at (j := k) (u := strV r[k]) (by simp [hkr])
              injection hA with hA
              injection hA with hA1 hA2
              subst hA1 hA2
              obtain ⟨z, hz⟩ : ∃ z, r[k] = z := ⟨_, rfl⟩
              rw [hz, strV] at r1
              have HAny := Lib.hid (show (r.take (k + 1)).any (· == sChunked) = (z == sChunked) from by rw [← hz]; exact any_takeC hkr HS.out.2)
              obtain ⟨zb, hzb⟩ : ∃ zb : ByteArray, (⟨z.toArray⟩ : ByteArray) = zb := ⟨_, rfl⟩
              have hzt : zb.toList = z := by rw [ByteArray.toList_eq, ← hzb]
              rw [hzb] at r1
              have j1 : (k : Int) < (r.length : Int) - 1 := by omega
              have j2 : (0 : Int) ≤ (k : Int) := by omega
              have j3 : (k : Int) < (r.length : Int) := by omega
              clear hz hzb
              by_cases hq : z = sChunked
              · have f1 : zb.toList = [99, 104, 117, 110, 107, 101, 100] := hzt.trans hq
                have hR4 : R = 400 := by
                  rw [← HRR.out, codT_two HC.out h1 (by rw [List.dropLast_eq_take]; exact any_moreC (by omega) (HAny.out.trans (by rw [hq]; decide)))]
                subst hR4
                clear hzt hq
                go_wp2_with fail
                go_ret
                exact ⟨rfl, HS3.out.trans HS.out.1 (fun _ _ h => h)⟩
              · have f1 : ¬ zb.toList = [99, 104, 117, 110, 107, 101, 100] := fun e => hq (hzt.symm.trans e)
                have f2 : (zb.toList == [99, 104, 117, 110, 107, 101, 100]) = false := by simpa using f1
                have HNo := Lib.hid (show (r.take (k + 1)).any (· == sChunked) = false from HAny.out.trans (by simpa using hq))
                clear hzt hq
                go_wp2_with fail
                exact ⟨⟨k + 1, by omega, by go_num, HS.out.1, HNo.out⟩, by simp [intOf]; omega⟩
            · have hR5 : R = 501 := by
                rw [← HRR.out, codT_other HC.out h1 (by rw [List.dropLast_eq_take, show r.length - 1 = k by omega]; exact HS.out.2)]
              subst hR5
              have j1 : ¬ (k : Int) < (r.length : Int) - 1 := by omega
              go_wp2_with fail
              go_ret
              exact ⟨rfl, HS3.out.trans HS.out.1 (fun _ _ h => h)⟩
      · have e1 : ¬ yb.toList = [99, 104, 117, 110, 107, 101, 100] := fun e => hch (hyt.symm.trans e)
        have e2 : (yb.toList == [99, 104, 117, 110, 107, 101, 100]) = false := by simpa using e1
        have e3 : (yb.toList != [99, 104, 117, 110, 107, 101, 100]) = true := by simpa using e1
        have hR4 : R = 400 := by rw [← HRR.out, codT_no (by rw [HY.out]; exact fun e => hch (Option.some.inj e))]
        subst hR4
        clear hyt hch
        go_wp2_with fail
        go_ret
        exact ⟨rfl, HS3.out⟩
  · have hR4 : R = 400 := by have h := HR.out; rw [hr] at h; exact h.symm
    subst hR4
    have HS3 := Lib.hid (HS2.out.trans hs (fun _ _ h => h))
    clear hs hr
    go_wp2_with fail
    go_ret
    exact ⟨rfl, HS3.out⟩
end
end Go.Proofs.YtiglfbimijnpcaaGreatDoor

namespace Go.Proofs.YtiglfbimijnpcaaGreatDoor
open Go.RowKit Go.Proofs

section
variable {tt : TypeId} {tl : List Value}
def numP (n0 : Int) (x : Txt) : Bool := (numD x).2 && (numD x).1 == n0
def lenT2 (n0 : Int) (l : List Txt) : Int × Int := if l.all (numP n0) = true then (if 2048 < n0 then (0, 413) else (n0, 0)) else (0, 400)
theorem lenT_eq (t : Txt) (r : List Txt) : lenT (t :: r) = lenT2 (numD t).1 (t :: r) := rfl
theorem lenT2_bad {n0 : Int} {l : List Txt} {x : Txt} (hx : x ∈ l) (h : numP n0 x = false) : lenT2 n0 l = (0, 400) := by
  unfold lenT2
  rw [if_neg]
  intro e
  rw [List.all_eq_true] at e
  have := e x hx
  rw [h] at this
  cases this
theorem lenT2_all {n0 : Int} {l : List Txt} (h : l.all (numP n0) = true) : lenT2 n0 l = if 2048 < n0 then (0, 413) else (n0, 0) := by unfold lenT2; rw [if_pos h]
theorem all_takeP {p : Txt → Bool} {r : List Txt} {k : Nat} (h : k < r.length) (hn : (r.take k).all p = true) (hp : p r[k] = true) : (r.take (k + 1)).all p = true := by
  rw [List.take_succ_eq_append_getElem h, List.all_append, hn]; simp [hp]
theorem numD_bd (l : Txt) (h : l.length ≤ 100000) : 0 ≤ (numD l).1 ∧ (numD l).1 ≤ 1152921504606846976 := by
  unfold numD numL
  split
  · decide
  · rename_i g
    split
    · rename_i n hn
      obtain ⟨a, b⟩ := numF_bd (Or.inl rfl) (k := 0) hn (by decide) (by decide)
      refine ⟨a, ?_⟩
      have : (16 : Int) ^ (0 + l.length) ≤ 16 ^ 15 := by exact_mod_cast Nat.pow_le_pow_right (by decide) (by omega)
      have e : (16 : Int) ^ 15 = 1152921504606846976 := by decide
      show n ≤ _
      omega
    · decide
def LenRel (w : World) (r : List Txt) (n0 : Int) (n i : Value) (wr : World) : Prop := ∃ k : Nat, k ≤ r.length ∧ i = .int .i64 k ∧ n = .int .i64 (if k = 0 then 0 else n0) ∧ Sm No w wr ∧ (r.take k).all (numP n0) = true
theorem LenRel.next {w wr : World} {r : List Txt} {n0 : Int} {k : Nat} (hlt : k < r.length) (hs : Sm No w wr) (h : (r.take (k + 1)).all (numP n0) = true) : LenRel w r n0 (.int .i64 n0) (.int .i64 ((k : Int) + 1)) wr := ⟨k + 1, by omega, by go_num, by rw [if_neg (by omega)], hs, h⟩
set_option maxRecDepth 100000 in
set_option maxHeartbeats 8000000 in
theorem rLength_any (w : World) (B g : Nat) (v : Value) (l : List Fld) (hF : FieldsIn tt tl w B g v l) (hL : LightF l) :
    Calls Tryz.prog 162 #[.pointer (some ⟨g, 0, none⟩)] w fun e w' => e = .returned (.tuple #[.int .i64 (lenW (valuesL l nLen)).1, .int .i64 (lenW (valuesL l nLen)).2]) ∧ Sm No w w' := by
  have HV := rValuesQ_any w B g v l nLen hF hL.len hL.short (by decide)
  have HLt := Lib.hid (hL.light nLen)
  unfold ValuesPost at HV
  obtain ⟨ys, hys⟩ : ∃ ys, valuesL l nLen = ys := ⟨_, rfl⟩
  rw [hys] at HV HLt ⊢
  have HV := Lib.hid HV
  obtain ⟨m, hmm⟩ : ∃ m, ys.length = m := ⟨_, rfl⟩
  have HM := Lib.hid hmm
  obtain ⟨R1, R2, hR⟩ : ∃ R1 R2, lenW ys = (R1, R2) := ⟨_, _, rfl⟩
  rw [hR]
  unfold lenW at hR
  have HR := Lib.hid hR
  clear hF hL hys hmm hR
  go_enter Tryz.func162, Tryz.ntmps162
  go_wp2_with fail
  refine HV.out.mono ?_
  rintro e w2 ⟨vs, rfl, hO, hs⟩
  obtain ⟨A2, c2, rfl, hRw⟩ := hO.row
  have HT := Lib.hid (rTokens_any w2 A2 c2 ys hRw (by have := HLt.out.len; omega) (fun s hs => by have := HLt.out.size s hs; omega) (by have := HLt.out.rest; omega))
  unfold TokPost at HT
  rw [HM.out] at HT ⊢
  have HS2 := Lib.hid hs
  clear hs hO hRw
  go_wp2_with fail
  refine HT.out.mono ?_
  rintro e w3 (⟨r, vT, hr, rfl, hO, hs⟩ | ⟨hr, rfl, hs⟩)
  · obtain ⟨A3, c3, rfl, hRw⟩ := hO.row2
    have hrl := HLt.out.many hr
    have HRR := Lib.hid (show lenT r = (R1, R2) from by have h := HR.out; rw [hr] at h; exact h)
    have HS3 := Lib.hid (HS2.out.trans hs (fun _ _ h => h))
    have HRow := Lib.hid hRw
    have HBd := Lib.hid (show ∀ l ∈ r, l.length ≤ 3001 from HLt.out.toks hr)
    clear hs hO hr hRw
    cases r with
    | nil =>
      have h := HRR.out
      rw [show lenT [] = (0, 400) from rfl] at h
      injection h with h1 h2
      subst h1 h2
      go_wp2_with fail
      go_ret2
      exact ⟨rfl, HS3.out⟩
    | cons t r' =>
      obtain ⟨n0, hn0⟩ : ∃ n0, (numD t).1 = n0 := ⟨_, rfl⟩
      have HR2 := Lib.hid (show lenT2 n0 (t :: r') = (R1, R2) from by rw [← hn0, ← lenT_eq]; exact HRR.out)
      have hN0 := numD_bd t (Nat.le_trans (HBd.out t (by simp)) (by decide))
      rw [hn0] at hN0
      obtain ⟨r, hrr⟩ : ∃ r, t :: r' = r := ⟨_, rfl⟩
      have HH := Lib.hid (show ∀ h : 0 < r.length, (numD r[0]).1 = n0 from fun h => by subst hrr; exact hn0)
      have hr0 : 0 < r.length := by rw [← hrr]; simp
      rw [hrr] at HR2 HRow hrl HBd ⊢
      clear hrr hn0 HRR
      have k0 : (0 : Int) < (r.length : Int) := by omega
      have k1 : ((r.length : Int) == 0) = false := by rw [beq_eq_false_iff_ne]; omega
      go_wp2_with fail
      go_loopw [6, 7] (fun n i wr => LenRel w3 r n0 n i wr) (fun _ i _ => r.length - (intOf i).toNat)
      case atStart => exact ⟨0, by omega, rfl, rfl, Sm.refl _ _, rfl⟩
      case round =>
        obtain ⟨k, hk, rfl, rfl, hsm, hall⟩ := hrel
        have HS := Lib.hid (And.intro hsm hall)
        obtain ⟨nn, hnn⟩ : ∃ nn : Int, (if k = 0 then 0 else n0) = nn := ⟨_, rfl⟩
        rw [hnn]
        have HNN := Lib.hid hnn
        clear hsm hall hnn
        by_cases hlt : k < r.length
        · obtain ⟨b2, o2, hA, hb2, r1⟩ := (HRow.out.no HS.out.1).at (j := k) (u := strV r[k]) (by simp [hlt])
          subst hA
          have hzb := HBd.out r[k] (List.getElem_mem hlt)
          obtain ⟨z, hz⟩ : ∃ z, r[k] = z := ⟨_, rfl⟩
          rw [hz] at r1 hzb
          rw [strV] at r1
          have HZ := Lib.hid hz
          obtain ⟨zb, hzb2⟩ : ∃ zb : ByteArray, (⟨z.toArray⟩ : ByteArray) = zb := ⟨_, rfl⟩
          have hzt : txt zb = z := by rw [← hzb2]; rfl
          have hzz : zb.size ≤ 1000000 := by rw [← txt_len, hzt]; omega
          rw [hzb2] at r1
          obtain ⟨a, ok, hno⟩ : ∃ a ok, numD z = (a, ok) := ⟨_, _, rfl⟩
          have HNum := rNum_any zb hzz wr
          rw [hzt, hno] at HNum
          have HNum := Lib.hid HNum
          have ha := numD_bd z (Nat.le_trans hzb (by decide))
          rw [hno] at ha
          have HNo := Lib.hid hno
          have j2 : (0 : Int) ≤ (k : Int) := by omega
          have j3 : (k : Int) < (r.length : Int) := by omega
          have HP := Lib.hid (show numP n0 r[k] = (ok && a == n0) from by rw [hz]; unfold numP; rw [hno])
          clear hzb2 hzt hno hz
          cases ok with
          | false =>
            have HE := Lib.hid (lenT2_bad (List.getElem_mem hlt) (HP.out.trans rfl))
            have h := HR2.out
            rw [HE.out] at h
            injection h with h1 h2
            subst h1 h2
            try clear h
            go_wp2_with fail
            refine HNum.out.mono ?_
            rintro e w4 ⟨rfl, rfl⟩
            go_wp2_with fail
            go_ret2
            exact ⟨rfl, HS3.out.trans HS.out.1 (fun _ _ h => h)⟩
          | true =>
            by_cases hk0 : k = 0
            · have hk1 : ¬ (0 : Int) < (k : Int) := by omega
              have han : a = n0 := by
                have h3 := HH.out hr0
                have h2 := HZ.out
                subst hk0
                rw [h2, HNo.out] at h3
                exact h3
              have HAll := Lib.hid (all_takeP hlt HS.out.2 (HP.out.trans (by simp [han])))
              subst han
              have hk2 := Lib.hid hk0
              clear hk0
              go_wp2_with fail
              refine HNum.out.mono ?_
              rintro e w4 ⟨rfl, rfl⟩
              go_wp2_with fail
              refine ⟨?_, by simp [intOf]; omega⟩
              first | exact LenRel.next hlt HS.out.1 HAll.out | ((repeat apply Exists.intro); exact ⟨LenRel.next hlt HS.out.1 HAll.out, rfl⟩)
            · have hk1 : (0 : Int) < (k : Int) := by omega
              obtain rfl : n0 = nn := by rw [← HNN.out, if_neg hk0]
              by_cases han : a = n0
              · have HAll := Lib.hid (all_takeP hlt HS.out.2 (HP.out.trans (by simp [han])))
                subst han
                go_wp2_with fail
                refine HNum.out.mono ?_
                rintro e w4 ⟨rfl, rfl⟩
                go_wp2_with fail
                refine ⟨?_, by simp [intOf]; omega⟩
                first | exact LenRel.next hlt HS.out.1 HAll.out | ((repeat apply Exists.intro); exact ⟨LenRel.next hlt HS.out.1 HAll.out, rfl⟩)
              · have HE := Lib.hid (lenT2_bad (List.getElem_mem hlt) (HP.out.trans (by simp [han])))
                have hb1 : (a == n0) = false := by simp [han]
                have hb2 : (a != n0) = true := by simp [han]
                have h := HR2.out
                rw [HE.out] at h
                injection h with h1 h2
                subst h1 h2
                clear han
                go_wp2_with fail
                refine HNum.out.mono ?_
                rintro e w4 ⟨rfl, rfl⟩
                go_wp2_with fail
                go_ret2
                exact ⟨rfl, HS3.out.trans HS.out.1 (fun _ _ h => h)⟩
        · have hkr : k = r.length := by omega
          obtain rfl : n0 = nn := by rw [← HNN.out, if_neg (by omega)]
          have h := HR2.out
          rw [lenT2_all (by have h := HS.out.2; rw [List.take_of_length_le (by omega)] at h; exact h)] at h
          have j3 : ¬ (k : Int) < (r.length : Int) := by omega
          clear hkr
          by_cases hbig : 2048 < n0
          · rw [if_pos hbig] at h
            injection h with h1 h2
            subst h1 h2
            try clear h
            go_wp2_with fail
            go_ret2
            exact ⟨rfl, HS3.out.trans HS.out.1 (fun _ _ h => h)⟩
          · rw [if_neg hbig] at h
            injection h with h1 h2
            subst h1 h2
            try clear h
            go_wp2_with fail
            go_ret2
            exact ⟨rfl, HS3.out.trans HS.out.1 (fun _ _ h => h)⟩
  · have h := HR.out
    rw [hr] at h
    have h : ((0 : Int), (400 : Int)) = (R1, R2) := h
    injection h with h1 h2
    subst h1 h2
    have HS3 := Lib.hid (HS2.out.trans hs (fun _ _ h => h))
    clear hs hr h
    go_wp2_with fail
    go_ret2
    exact ⟨rfl, HS3.out⟩
end
end Go.Proofs.YtiglfbimijnpcaaGreatDoor

