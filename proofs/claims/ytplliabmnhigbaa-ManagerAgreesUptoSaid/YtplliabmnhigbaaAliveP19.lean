/- PLAIN: what the live question comes to. -/
import Derived.Test.YtplliabmnhigbaaDec19
set_option linter.unusedVariables false
set_option linter.unusedSimpArgs false
namespace Go.Proofs.Ytplliabmnhigbaa
open Go.RowKit Go.Tk
def inc0 (k : Nat) : Int := if k = 3 then 0 else 1
def sItem (B : Option Addr) (d : Nat) : ItS := ⟨3, 0, false, B, d, [], inc0⟩
def pB : ByteArray := ⟨#[112]⟩
def half3 : Learn11 := ⟨3, [(0, ⟨noB, pB⟩)], .empty, false⟩
def done3 : Learn11 := ⟨3, [(0, ⟨noB, pB⟩), (1, ⟨noB, pB⟩)], pB, true⟩
theorem acc_half : accepted11 (newL 3) 0 noB pB = (.empty, false, half3) := by
  simp [accepted11, newL, stale11, told11, Said.same, mset, half3]
theorem acc_done : accepted11 half3 1 noB pB = (pB, true, done3) := by
  simp [accepted11, stale11, told11, Said.same, mset, mget_cons, half3, done3]
theorem read_pB : readOf pB = 1 := by simp [readOf, pB, ByteArray.toList_eq]
def sI (r : Int) : Inst := ⟨1, 3, r, 0⟩
theorem visits_s (B : Option Addr) (d : Nat) : visits 1 [sItem B d] = [⟨0, 0, sI 0⟩, ⟨0, 1, sI 1⟩, ⟨0, 2, sI 2⟩] := by
  simp [visits, visitsTo, visitsAt, sItem, inc0, sI, List.range_succ]
theorem dec0 (B : Option Addr) (d : Nat) : decideOf true 1 [sItem B d] [(sI 0, done3), (sI 1, newL 3), (sI 2, newL 3)] = 0 := by
  unfold decideOf
  rw [visits_s]
  simp [votesAfter, voteStep, mget_cons, sI, done3, newL, read_pB, decide18, rowsOk, rowOk, prep, sunk, cn, incsOf, sItem, ItS.r, inc0, rowSet, List.range_succ]
theorem dec1 (B : Option Addr) (d : Nat) : decideOf true 1 [sItem B d] [(sI 0, done3), (sI 1, done3), (sI 2, newL 3)] = 0 := by
  unfold decideOf
  rw [visits_s]
  simp [votesAfter, voteStep, mget_cons, sI, done3, newL, read_pB, decide18, rowsOk, rowOk, prep, sunk, cn, incsOf, sItem, ItS.r, inc0, rowSet, List.range_succ]
theorem dec2 (B : Option Addr) (d : Nat) : decideOf true 1 [sItem B d] [(sI 0, done3), (sI 1, done3), (sI 2, done3)] = 1 := by
  unfold decideOf
  rw [visits_s]
  simp [votesAfter, voteStep, mget_cons, sI, done3, newL, read_pB, decide18, rowsOk, rowOk, prep, sunk, cn, incsOf, sItem, ItS.r, inc0, rowSet, List.range_succ]
def stA (r : Nat) : List (Inst × Learn11) := [(sI 0, if 0 < r then done3 else newL 3), (sI 1, if 1 < r then done3 else newL 3), (sI 2, if 2 < r then done3 else newL 3)]
def stB (r : Nat) : List (Inst × Learn11) := [(sI 0, if 0 < r then done3 else if r = 0 then half3 else newL 3), (sI 1, if 1 < r then done3 else if r = 1 then half3 else newL 3), (sI 2, if 2 < r then done3 else if r = 2 then half3 else newL 3)]
def dA (r : Nat) : Int := if r = 3 then 1 else 0
theorem hearA (B : Option Addr) (d : Nat) {r : Nat} (hr : r < 3) : hear11 true 1 [sItem B d] (stA r) 0 3 r 0 noB pB = (0, 0, stB r, 0) := by
  have h : r = 0 ∨ r = 1 ∨ r = 2 := by omega
  rcases h with rfl | rfl | rfl <;> simp [hear11, stA, stB, mget_cons, sI, read_pB, acc_half, mset]
theorem hearB (B : Option Addr) (d : Nat) {r : Nat} (hr : r < 3) : hear11 true 1 [sItem B d] (stB r) 0 3 r 1 noB pB = (dA (r + 1), 0, stA (r + 1), dA (r + 1)) := by
  have h0 := dec0 B d
  have h1 := dec1 B d
  have h2 := dec2 B d
  have h : r = 0 ∨ r = 1 ∨ r = 2 := by omega
  simp only [sI] at h0 h1 h2
  rcases h with rfl | rfl | rfl <;> simp [hear11, stA, stB, mget_cons, sI, read_pB, acc_done, mset, dA, h0, h1, h2]
end Go.Proofs.Ytplliabmnhigbaa
