/-
  GENERAL WORDS, over any program: a world behind a callee that only made memory ('w.ext y'); regions that draw their order and whose operations read, or call such callees; what an argument reads as; the last step of a law's row.
-/
import Derived.WalkKit
import Derived.WalkLawsBesides
import Derived.WalkSpells
import Derived.RegionTactic
import Derived.BigRegion
import Derived.BigQuiet
import Derived.Deep.QuietTactic
import Derived.Below
import Derived.Deep.Draws
import Derived.ChangeSame
import Derived.Carry
import Derived.OpenShut
import Derived.Deep.Slices
import Derived.ProofKit
import Derived.JoinedCond
import Derived.KernelRfl
import Derived.Lib.Hide
set_option linter.unusedVariables false
set_option linter.unusedSimpArgs false
namespace Go.Tk
open Go.RowKit Go.WideShapes Go.ChangeShapes

/-! ### a world behind a callee that only made memory -/
structure Ext where
  objs : Array Obj
  n : Nat
instance : Inhabited Ext := ⟨⟨#[], 0⟩⟩
def _root_.Go.World.ext (w : World) (x : Ext) : World := { w with heap := w.heap ++ x.objs, drawn := x.n }
section
variable {w w' : World} {x y : Ext} {a : Addr} {b o : Nat}
theorem size_ext : (w.ext x).heap.size = w.heap.size + x.objs.size := by simp [World.ext]
theorem heap_ext (h : b < w.heap.size) : (w.ext x).heap[b]? = w.heap[b]? := by
  simp only [World.ext]
  rw [Array.getElem?_append_left h]
theorem cell?_ext (h : b < w.heap.size) : (w.ext x).cell? ⟨b, o, none⟩ = w.cell? ⟨b, o, none⟩ := World.cell?_of_block (heap_ext h)
theorem frozen?_ext (h : b < w.heap.size) : (w.ext x).frozen? ⟨b, o, none⟩ = w.frozen? ⟨b, o, none⟩ := World.frozen?_of_block (heap_ext h)
theorem ext_drew : (w.ext x).drew = w.ext ⟨x.objs, x.n + 1⟩ := rfl
theorem ext_drewN {n : Nat} : (w.ext x).drewN n = w.ext ⟨x.objs, x.n + n⟩ := rfl
theorem drew_ext : w.drew.ext x = w.ext x := rfl
theorem drewN_ext {n : Nat} : (w.drewN n).ext x = w.ext x := rfl
theorem ext_ext : (w.ext x).ext y = w.ext ⟨x.objs ++ y.objs, y.n⟩ := by simp [World.ext, Array.append_assoc]
theorem setCell_ext (v : Value) (h : b < w.heap.size) : (w.ext x).setCell ⟨b, o, none⟩ v = (w.setCell ⟨b, o, none⟩ v).ext x := by
  simp only [World.ext, World.setCell, World.mk.injEq, and_self, and_true]
  apply Array.ext
  · simp
  · intro i h1 h2
    simp only [Array.getElem_modify, Array.getElem_append, Array.size_modify]
    by_cases hi : b = i
    · subst hi; simp [h]
    · simp [hi]
theorem setCell_drewN {n : Nat} (v : Value) : (w.drewN n).setCell a v = (w.setCell a v).drewN n := rfl
theorem ext_self : w = w.ext ⟨#[], w.drawn⟩ := by simp [World.ext]
theorem of_below (h : Below w.heap.size w w') : ∃ x, w' = w.ext x := by
  refine ⟨⟨w'.heap.extract w.heap.size w'.heap.size, w'.drawn⟩, ?_⟩
  have hh : w'.heap = w.heap ++ w'.heap.extract w.heap.size w'.heap.size := by
    apply Array.ext_getElem?
    intro i
    by_cases hi : i < w.heap.size
    · rw [Array.getElem?_append_left hi, h.block i hi]
    · rw [Array.getElem?_append_right (by omega)]
      have := h.size
      by_cases hj : i < w'.heap.size
      · rw [Array.getElem?_eq_getElem hj, Array.getElem?_eq_getElem (by simp; omega)]
        simp only [Array.getElem_extract, Option.some.injEq]
        congr 1
        omega
      · rw [Array.getElem?_eq_none (by omega), Array.getElem?_eq_none (by simp; omega)]
  obtain ⟨h1, t, d, os, out⟩ := w'
  obtain ⟨h0, t0, d0, os0, out0⟩ := w
  have e1 := h.os
  have e2 := h.tape
  have e3 := h.output
  simp only at e1 e2 e3 hh
  subst e1 e2 e3
  simp only [World.ext]
  congr 1
theorem below_ext : Below w.heap.size w (w.ext x) := ⟨rfl, rfl, rfl, by simp [size_ext], fun _ hk => heap_ext hk⟩
theorem vbool {x y : Bool} (h : x = true ↔ y = true) : Value.bool x = Value.bool y := by rw [Bool.eq_iff_iff.2 h]
theorem vint {k : IntKind} {x y : Int} (h : x = y) : Value.int k x = Value.int k y := by rw [h]
theorem lt_more {n m k : Nat} (h : n < m) : (n < m + k) = True := by simp; omega
theorem le_more {n m k : Nat} (h : n < m) : (n ≤ m + k) = True := by simp; omega
/-- facts on a block's number, for the walk: 'obtain ⟨r1, r2, r3, r4, r5, r6⟩ := roomy hb' -/
theorem roomy {b s : Nat} (h : b < s) : (∀ n, b < s + n) ∧ (∀ n m, b < s + n + m) ∧ (∀ n m k, b < s + n + m + k) ∧ (∀ n, b ≤ s + n) ∧ (∀ n m, b ≤ s + n + m) ∧ (∀ n m k, b ≤ s + n + m + k) :=
  ⟨fun _ => by omega, fun _ _ => by omega, fun _ _ _ => by omega, fun _ => by omega, fun _ _ => by omega, fun _ _ _ => by omega⟩
theorem below_of_ext {B : Nat} {v : World} (h : Below B v w) (hB : B ≤ w.heap.size) : Below B v (w.ext x) := h.trans (below_ext.mono hB)
end
/-- a box laid behind 'w.ext y', and more behind it -/
theorem world_ext1 {w : World} {y z : Ext} {o : Obj} : ((w.ext y).alloc o).ext z = w.ext ⟨y.objs.push o ++ z.objs, z.n⟩ := by
  simp [World.ext, World.alloc, Array.push_append, Array.append_assoc]
attribute [go_sem] setCell_drewN size_ext cell?_ext frozen?_ext ext_drew ext_drewN setCell_ext lt_more le_more

/-! ### contracts of callees that only make memory: 'e = .returned v ∧ ∃ y, w' = w.ext y' -/
def Gives (w : World) (v : Value) (e : Ending) (w' : World) : Prop := e = .returned v ∧ ∃ y, w' = w.ext y
theorem Gives.mk {w w' : World} {v v' : Value} (hv : v = v') (hb : Below w.heap.size w w') : Gives w v' (.returned v) w' := ⟨by rw [hv], of_below hb⟩

/-- A callee's contract, met in a region in the world 'w.ext x'. -/
theorem quiet_pure {P : Program} {f : FuncId} {args : Array Value} {w : World} {x : Ext} {v : Value}
    (h : Calls P f args (w.ext x) (Gives (w.ext x) v)) : Calls P f args (w.ext x) fun e w'' => e = .returned v ∧ ∃ y, w'' = w.ext y :=
  h.mono fun _ _ hp => by
    obtain ⟨he, y, rfl⟩ := hp
    exact ⟨he, _, ext_ext⟩

/-- A REGION THAT DRAWS ITS ORDER, its operations only read or call callees that only make memory. -/
theorem wp_region_ext {P : Program} {id : Nat} {Q : Exit → Act → World → Prop} {a : Act} {w : World} {l : List Oper} (hm : P.follows .mixedOrders = true) (hB : Region.lexB .any l.toArray = true)
    (h : wpQuiet P l.toArray (fun w' => ∃ x, w' = w.ext x) (fun a' => ∀ w', (∃ x, w' = w.ext x) → Q .normal a' w') l a) : (Code.region id l.toArray true).wp P Q a w :=
  wp_region_quiet (C := fun w' => ∃ x, w' = w.ext x) hm hB ⟨⟨#[], w.drawn + 1⟩, by simp [World.ext]⟩ (by simpa using h)
end Go.Tk
