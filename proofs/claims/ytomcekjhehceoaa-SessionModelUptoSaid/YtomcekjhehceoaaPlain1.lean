/- PLAIN LAWS on keys: a key's position as two numbers. No program in sight. -/
import Derived.WalkKit
set_option linter.unusedVariables false
set_option linter.unusedSimpArgs false
namespace Go.Tk

/-- byte i of a text, 0 behind its end -/
def byteAt (s : ByteArray) (i : Nat) : Nat := if h : i < s.size then s[i].toNat else 0
theorem byteAt_lt (s : ByteArray) (i : Nat) : byteAt s i < 256 := by
  unfold byteAt
  split
  · exact UInt8.toNat_lt _
  · omega
theorem byteAt_in (s : ByteArray) (i : Nat) (h : i < s.size) : byteAt s i = s[i].toNat := by simp [byteAt, h]
theorem byteAt_out (s : ByteArray) (i : Nat) (h : s.size ≤ i) : byteAt s i = 0 := by simp [byteAt, show ¬ i < s.size by omega]
/-- k bytes from a on, as a number -/
def num (s : ByteArray) (a : Nat) : Nat → Nat
  | 0 => 0
  | k + 1 => num s a k * 256 + byteAt s (a + k)
theorem num_lt (s : ByteArray) (a : Nat) : ∀ k, num s a k < 256 ^ k
  | 0 => by simp [num]
  | k + 1 => by
    have h1 := num_lt s a k
    have h2 := byteAt_lt s (a + k)
    have h3 : 256 ^ (k + 1) = 256 ^ k * 256 := Nat.pow_succ ..
    rw [h3]
    simp only [num]
    have h4 : (num s a k + 1) * 256 ≤ 256 ^ k * 256 := Nat.mul_le_mul_right _ h1
    omega
theorem num_out (s : ByteArray) (a k : Nat) (h : s.size ≤ a) : num s a k = 0 := by
  induction k with
  | zero => rfl
  | succ k ih => simp [num, ih, byteAt_out s (a + k) (by omega)]
theorem num_more (s : ByteArray) (a k : Nat) (h : s.size ≤ a + k) : ∀ j, num s a (k + j) = num s a k * 256 ^ j
  | 0 => by simp
  | j + 1 => by
    rw [← Nat.add_assoc]
    simp only [num]
    rw [num_more s a k h j, byteAt_out s _ (by omega), Nat.pow_succ, Nat.mul_assoc]
    omega
def posHi (s : ByteArray) : Nat := num s 0 8
def posLo (s : ByteArray) : Nat := num s 8 8
theorem posHi_lt (s : ByteArray) : posHi s < 18446744073709551616 := by have := num_lt s 0 8; unfold posHi; omega
theorem posLo_lt (s : ByteArray) : posLo s < 18446744073709551616 := by have := num_lt s 8 8; unfold posLo; omega
def bucketOf (s : ByteArray) : Nat := posHi s / 288230376151711744

theorem wrap_u64 (n : Nat) (h : n < 18446744073709551616) : IntKind.u64.wrap (n : Int) = n := by
  simp [IntKind.wrap, IntKind.bits, IntKind.signed]
  omega
theorem ofInt_u64 (a : Nat) (ha : a < 18446744073709551616) : (BitVec.ofInt 64 (a : Int)).toNat = a := by
  rw [BitVec.toNat_ofInt]
  omega
theorem u64_or (a b : Nat) (ha : a < 18446744073709551616) (hb : b < 18446744073709551616) : bits .or .u64 (a : Int) (b : Int) = ((a ||| b : Nat) : Int) := by
  have hx : a ||| b < 2 ^ 64 := Nat.or_lt_two_pow (by omega) (by omega)
  show IntKind.u64.wrap ((BitVec.ofInt 64 (a : Int) ||| BitVec.ofInt 64 (b : Int)).toNat : Int) = _
  rw [BitVec.toNat_or, ofInt_u64 a ha, ofInt_u64 b hb, wrap_u64 _ (by omega)]
/-- a round of 'half |= c << ..': the byte comes in below -/
theorem or_step (m c p : Nat) (hm : m < 256 ^ (7 - p)) (hp : p < 8) (hc : c < 256) :
    bits .or .u64 ((m * 256 ^ (p + 1) : Nat) : Int) (IntKind.u64.wrap (IntKind.u64.wrap (c : Int) * 2 ^ (8 * p))) = (((m * 256 + c) * 256 ^ p : Nat) : Int) := by
  have e256 : (256 : Nat) ^ p = 2 ^ (8 * p) := by rw [Nat.pow_mul]
  have e1 : (256 : Nat) ^ (p + 1) = 2 ^ (8 * p + 8) := by rw [show 8 * p + 8 = 8 * (p + 1) by omega, Nat.pow_mul]
  have hq : c * 2 ^ (8 * p) < 2 ^ (8 * p + 8) := by
    rw [Nat.pow_add, Nat.mul_comm]
    exact Nat.mul_lt_mul_of_pos_left (by omega) (Nat.two_pow_pos _)
  have hq2 : (2 : Nat) ^ (8 * p + 8) ≤ 2 ^ 64 := Nat.pow_le_pow_right (by omega) (by omega)
  have hmm : m * 2 ^ (8 * p + 8) < 2 ^ 64 := by
    have : (2 : Nat) ^ 64 = 256 ^ (7 - p) * 2 ^ (8 * p + 8) := by
      rw [show (256 : Nat) = 2 ^ 8 from rfl, ← Nat.pow_mul, ← Nat.pow_add]
      congr 1
      omega
    rw [this]
    exact Nat.mul_lt_mul_of_pos_right hm (Nat.two_pow_pos _)
  rw [wrap_u64 c (by omega)]
  have e2 : ((c : Int) * 2 ^ (8 * p)) = ((c * 2 ^ (8 * p) : Nat) : Int) := by simp
  rw [e2, wrap_u64 _ (by omega), e1, e256, u64_or _ _ (by omega) (by omega)]
  congr 1
  rw [show m * 2 ^ (8 * p + 8) = m <<< (8 * p + 8) from (Nat.shiftLeft_eq ..).symm, ← Nat.shiftLeft_add_eq_or_of_lt hq, Nat.shiftLeft_eq, Nat.add_mul, Nat.mul_assoc, Nat.pow_add, Nat.mul_comm 256]
end Go.Tk
