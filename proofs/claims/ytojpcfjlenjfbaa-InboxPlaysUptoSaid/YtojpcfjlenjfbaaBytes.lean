/- BYTES: a slice of bytes that is read; the sum, bit by bit, on words of 32 bits. -/
import Derived.Test.YtojpcfjlenjfbaaElt
import Derived.Test.YtojpcfjlenjfbaaArgs
set_option linter.unusedVariables false
set_option linter.unusedSimpArgs false
namespace Go.Proofs.Ytojpcfjlenjfbaa
open Go.RowKit Go.Tk

def byteCells (b : UInt8) : List Value := [.int .u8 (b.toNat : Int)]
theorem byteTy : ElTy Try.prog 32 5 1 byteCells 0 := ⟨Try.underlying32, by kernel_rfl, by kernel_rfl, by omega, fun _ => rfl, fun a u h => by simp [byteCells] at h; subst h; rfl⟩
/-- the slice at A reads as the bytes l -/
structure Rd (w : World) (A : Option Addr) (l : List UInt8) : Prop where
  ats : ∀ i x, l[i]? = some x → ∃ b off, A = some ⟨b, off, none⟩ ∧ b < w.heap.size ∧ w.cell? ⟨b, off + i, none⟩ = some (.int .u8 (x.toNat : Int))
theorem Rd.nil {w : World} {A : Option Addr} : Rd w A [] := ⟨fun i x h => by simp at h⟩
theorem Rd.fr {w W : World} {A : Option Addr} {l : List UInt8} (h : Rd w A l) (f : Fr [] w W) : Rd W A l := ⟨fun i x hi => by
  obtain ⟨b, off, h1, h2, h3⟩ := h.ats i x hi
  exact ⟨b, off, h1, Nat.lt_of_lt_of_le h2 f.size, (f.cell h2).trans h3⟩⟩
theorem Rd.take {w : World} {A : Option Addr} {l : List UInt8} (h : Rd w A l) (n : Nat) : Rd w A (l.take n) := ⟨fun i x hi => by
  rw [List.getElem?_take] at hi
  split at hi
  · exact h.ats i x hi
  · simp at hi⟩
theorem Rd.drop {w : World} {b off : Nat} {l : List UInt8} (h : Rd w (some ⟨b, off, none⟩) l) (n : Nat) : Rd w (some ⟨b, off + n, none⟩) (l.drop n) := ⟨fun i x hi => by
  rw [List.getElem?_drop] at hi
  obtain ⟨b', off', h1, h2, h3⟩ := h.ats _ x hi
  injection h1 with h1
  injection h1 with e1 e2
  subst e1 e2
  exact ⟨b, off + n, rfl, h2, by rw [← h3, Nat.add_assoc]⟩⟩
/-- some address holds it, if there is anything -/
theorem Rd.addr {w : World} {A : Option Addr} {l : List UInt8} (h : Rd w A l) (hl : 0 < l.length) : ∃ b off, A = some ⟨b, off, none⟩ ∧ b < w.heap.size := by
  obtain ⟨b, off, h1, h2, _⟩ := h.ats 0 _ (List.getElem?_eq_getElem hl)
  exact ⟨b, off, h1, h2⟩
theorem Rd.at_ {w : World} {b off : Nat} {l : List UInt8} (h : Rd w (some ⟨b, off, none⟩) l) {i : Nat} {x : UInt8} (hi : l[i]? = some x) : w.cell? ⟨b, off + i, none⟩ = some (.int .u8 (x.toNat : Int)) := by
  obtain ⟨b', off', h1, h2, h3⟩ := h.ats i x hi
  injection h1 with h1
  injection h1 with e1 e2
  subst e1 e2
  exact h3
theorem listA_rd {w : World} {A : Option Addr} {c : Nat} {l : List UInt8} (h : (listA 5 1 byteCells A c l).holds w) : Rd w A l := ⟨fun i x hi => by
  obtain ⟨g, rfl, hr, _, hc⟩ := listA_get (cs := byteCells) (fun _ => rfl) h hi
  refine ⟨g, 0, rfl, hr.1, ?_⟩
  have := hc.1
  rw [Nat.mul_one, Nat.add_zero] at this
  rw [Nat.zero_add]
  exact this⟩
theorem Rd.src {w : World} {A : Option Addr} {l : List UInt8} (h : Rd w A l) : Src w A 1 l.length (l.flatMap byteCells) := by
  refine ⟨flatMap_len (cs := byteCells) (fun _ => rfl) l, fun hp => ?_⟩
  obtain ⟨b, off, rfl, hb⟩ := h.addr hp
  refine ⟨b, off, rfl, fun j u hu => ?_⟩
  have hj : j < l.length := by
    have := (List.getElem?_eq_some_iff.1 hu).1
    rwa [flatMap_len (cs := byteCells) (fun _ => rfl), Nat.mul_one] at this
  have h2 := flatMap_at (cs := byteCells) (size := 1) (fun _ => rfl) l j _ (List.getElem?_eq_getElem hj) 0 (by omega)
  rw [Nat.mul_one, Nat.add_zero, hu] at h2
  rw [h.at_ (List.getElem?_eq_getElem hj)]
  simp [byteCells] at h2
  rw [h2]
/-! ### words of 32 bits -/
def w32 (x : BitVec 32) : Value := .int .u32 (x.toNat : Int)
theorem wrap32 (n : Nat) : IntKind.u32.wrap (n : Int) = ((BitVec.ofNat 32 n).toNat : Int) := by
  simp [IntKind.wrap, IntKind.signed, IntKind.bits]
theorem ofInt32 (x : BitVec 32) : BitVec.ofInt 32 (x.toNat : Int) = x := by
  rw [BitVec.ofInt_natCast, BitVec.ofNat_toNat, BitVec.setWidth_eq]
theorem wrap32_self (x : BitVec 32) : IntKind.u32.wrap (x.toNat : Int) = (x.toNat : Int) := by
  rw [wrap32, BitVec.ofNat_toNat, BitVec.setWidth_eq]
theorem xor32 (x y : BitVec 32) : IntKind.u32.wrap ((BitVec.ofInt 32 (x.toNat : Int) ^^^ BitVec.ofInt 32 (y.toNat : Int)).toNat : Int) = ((x ^^^ y).toNat : Int) := by
  rw [ofInt32, ofInt32, wrap32_self]
end Go.Proofs.Ytojpcfjlenjfbaa
