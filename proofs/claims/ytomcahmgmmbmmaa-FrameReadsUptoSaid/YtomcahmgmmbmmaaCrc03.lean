/- PLAIN: the sum, bit by bit, on words of 32 bits; numbers as four bytes. No program in sight. -/
import Derived.Test.YtomcahmgmmbmmaaBytes
set_option linter.unusedVariables false
set_option linter.unusedSimpArgs false
namespace Go.Proofs.Ytomcahmgmmbmmaa
open Go.Tk
def stepP (x : BitVec 32) : BitVec 32 := x >>> 1 ^^^ (0x82F63B78#32 &&& -(x &&& 1#32))
def iterP : Nat → BitVec 32 → BitVec 32
  | 0, x => x
  | n + 1, x => stepP (iterP n x)
def inB (x : BitVec 32) (b : UInt8) : BitVec 32 := x ^^^ b.toBitVec.setWidth 32
def byteP (x : BitVec 32) (b : UInt8) : BitVec 32 := iterP 8 (inB x b)
def rawP (s : BitVec 32) (l : List UInt8) : BitVec 32 := l.foldl byteP s
def crc (s : BitVec 32) (l : List UInt8) : BitVec 32 := ~~~ rawP (~~~ s) l
theorem rawP_snoc (s : BitVec 32) (l : List UInt8) (b : UInt8) : rawP s (l ++ [b]) = byteP (rawP s l) b := by simp [rawP]
theorem rawP_append (s : BitVec 32) (l m : List UInt8) : rawP s (l ++ m) = rawP (rawP s l) m := by simp [rawP]
theorem crc_append (s : BitVec 32) (l m : List UInt8) : crc s (l ++ m) = crc (crc s l) m := by
  unfold crc
  rw [rawP_append, BitVec.not_not]
theorem bits_xor32 (x y : BitVec 32) : bits .xor .u32 (x.toNat : Int) (y.toNat : Int) = ((x ^^^ y).toNat : Int) := by
  simp only [bits]
  exact xor32 x y
theorem bits_and32 (x y : BitVec 32) : bits .and .u32 (x.toNat : Int) (y.toNat : Int) = ((x &&& y).toNat : Int) := by
  simp only [bits]
  show IntKind.u32.wrap ((BitVec.ofInt 32 (x.toNat : Int) &&& BitVec.ofInt 32 (y.toNat : Int)).toNat : Int) = _
  rw [ofInt32, ofInt32, wrap32_self]
theorem bits_or32 (x y : BitVec 32) : bits .or .u32 (x.toNat : Int) (y.toNat : Int) = ((x ||| y).toNat : Int) := by
  simp only [bits]
  show IntKind.u32.wrap ((BitVec.ofInt 32 (x.toNat : Int) ||| BitVec.ofInt 32 (y.toNat : Int)).toNat : Int) = _
  rw [ofInt32, ofInt32, wrap32_self]
theorem neg32 (x : BitVec 32) : -(x.toNat : Int) % 4294967296 = ((-x).toNat : Int) := by
  rw [BitVec.toNat_neg]
  have := x.isLt
  omega
theorem half32 (x : BitVec 32) : (x.toNat : Int) / (2 : Int) = ((x >>> 1).toNat : Int) := by
  rw [BitVec.toNat_ushiftRight, Nat.shiftRight_eq_div_pow]
  simp
theorem step_int (z : BitVec 32) : bits .xor .u32 ((z.toNat : Int) / 2) (bits .and .u32 2197175160 (-bits .and .u32 (z.toNat : Int) 1 % 4294967296)) = ((stepP z).toNat : Int) := by
  have h1 : (1 : Int) = ((1#32).toNat : Int) := rfl
  have h2 : (2197175160 : Int) = ((0x82F63B78#32).toNat : Int) := rfl
  rw [half32, h1, h2, bits_and32, neg32, bits_and32, bits_xor32]
  rfl
theorem byte32 (y : UInt8) : (y.toNat : Int) % 4294967296 = ((y.toBitVec.setWidth 32).toNat : Int) := by
  rw [BitVec.toNat_setWidth]
  have h1 := y.toNat_lt
  have : y.toBitVec.toNat = y.toNat := rfl
  rw [this]
  omega
theorem in_int (x : BitVec 32) (y : UInt8) : bits .xor .u32 (x.toNat : Int) ((y.toNat : Int) % 4294967296) = ((inB x y).toNat : Int) := by
  rw [byte32, bits_xor32]
  rfl
theorem not_int (x : BitVec 32) : bits .xor .u32 IntKind.u32.max (x.toNat : Int) = ((~~~ x).toNat : Int) := by
  have h1 : IntKind.u32.max = ((BitVec.allOnes 32).toNat : Int) := by decide
  rw [h1, bits_xor32, BitVec.allOnes_xor]
end Go.Proofs.Ytomcahmgmmbmmaa
