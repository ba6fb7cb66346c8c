/- Words over bytes: small letters, tokens, values. No program in sight. -/
import Derived.Lib.SlTrimSet
import Derived.Lib.Bytealg
namespace Go.Proofs.YtnopbhboamembaaDoor

def upB (c : UInt8) : Bool := decide (65 ≤ c.toNat ∧ c.toNat ≤ 90)
def lowC (c : UInt8) : UInt8 := if upB c then c + 32 else c
def lowL (l : List UInt8) : List UInt8 := l.map lowC
def letB (c : UInt8) : Bool := upB c || decide (97 ≤ c.toNat ∧ c.toNat ≤ 122)
def marks : List UInt8 := [33, 35, 36, 37, 38, 39, 42, 43, 45, 46, 94, 95, 96, 124, 126]
def tokB (c : UInt8) : Bool := letB c || decide (48 ≤ c.toNat ∧ c.toNat ≤ 57) || marks.contains c
def valB (c : UInt8) : Bool := c == 9 || (decide (32 ≤ c.toNat) && c != 127)
def tokL (l : List UInt8) : Bool := !l.isEmpty && l.all tokB
def valL (l : List UInt8) : Bool := l.all valB
def blanks : List UInt8 := [9, 32]
def trimL (l : List UInt8) : List UInt8 := Lib.trimS l blanks

theorem upB_iff (c : UInt8) : upB c = true ↔ 65 ≤ c.toNat ∧ c.toNat ≤ 90 := by unfold upB; simp
theorem lowC_toNat (c : UInt8) : (lowC c).toNat = if upB c then c.toNat + 32 else c.toNat := by
  unfold lowC
  cases h : upB c
  · rfl
  · have := (upB_iff c).mp h
    simp [UInt8.toNat_add]; omega

/-- A law of all bytes, by looking at all 256. -/
theorem byte_all (p : UInt8 → Bool) (h : (List.range 256).all (fun n => p (UInt8.ofNat n)) = true) (c : UInt8) : p c = true := by
  have := List.all_eq_true.mp h c.toNat (List.mem_range.mpr c.toNat_lt)
  simpa using this

theorem tok_marks (c : UInt8) : letB c = false → (0 ≤ Lib.indexByte [48, 49, 50, 51, 52, 53, 54, 55, 56, 57, 33, 35, 36, 37, 38, 39, 42, 43, 45, 46, 94, 95, 96, 124, 126] c ↔ tokB c = true) := by
  have := byte_all (fun c => letB c || (decide (0 ≤ Lib.indexByte [48, 49, 50, 51, 52, 53, 54, 55, 56, 57, 33, 35, 36, 37, 38, 39, 42, 43, 45, 46, 94, 95, 96, 124, 126] c) == tokB c)) (by decide +kernel) c
  intro h
  simp only [h, Bool.false_or, beq_iff_eq] at this
  rw [← this]; simp
end Go.Proofs.YtnopbhboamembaaDoor
