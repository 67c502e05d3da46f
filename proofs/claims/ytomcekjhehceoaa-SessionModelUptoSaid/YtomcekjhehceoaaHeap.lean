/- GENERAL WORDS on blocks: what a block's cells are, that a block stays; a world in which at most the map in block mb, of what was there, has changed ('Kept'). -/
import Derived.Test.YtomcekjhehceoaaMaps
set_option linter.unusedVariables false
set_option linter.unusedSimpArgs false
namespace Go.Tk
open Go.RowKit

theorem cell_of_heap {W : World} {b i : Nat} {cs : Array Value} {t : TypeId} {fr : Nat × Nat} (h : W.heap[b]? = some (.cells cs t fr)) : W.cell? ⟨b, i, none⟩ = cs[i]? := by simp [World.cell?, h]
theorem frozen_of_heap {W : World} {b i : Nat} {cs : Array Value} {t : TypeId} (h : W.heap[b]? = some (.cells cs t (0, 0))) : W.frozen? ⟨b, i, none⟩ = false := by simp [World.frozen?, h]
theorem lt_of_heap {W : World} {b : Nat} {o : Obj} (h : W.heap[b]? = some o) : b < W.heap.size := (Array.getElem?_eq_some_iff.1 h).1
theorem hp_new {w : World} {o : Obj} {n : Nat} (h : n = w.heap.size) : (w.alloc o).heap[n]? = some o := by subst h; exact heap_alloc_new w o
theorem hp_alloc {w : World} {o : Obj} {b : Nat} (o' : Obj) (h : w.heap[b]? = some o) : (w.alloc o').heap[b]? = some o := (Below.heap_alloc w o' b (lt_of_heap h)).trans h
theorem hp_ext {w : World} {o : Obj} {b : Nat} {x : Ext} (h : w.heap[b]? = some o) : (w.ext x).heap[b]? = some o := (heap_ext (lt_of_heap h)).trans h
theorem ext_alloc {w : World} {x : Ext} {o : Obj} : (w.ext x).alloc o = w.ext ⟨x.objs.push o, x.n⟩ := by simp [World.ext, World.alloc, Array.push_append]
theorem alloc_ext (w : World) (o : Obj) : w.alloc o = w.ext ⟨#[o], w.drawn⟩ := by simp only [World.ext, World.alloc, Array.push_eq_append]

/-- of what was there, at most the block mb has changed -/
structure Kept (mb : Nat) (w w' : World) : Prop where
  os : w'.os = w.os
  tape : w'.tape = w.tape
  output : w'.output = w.output
  size : w.heap.size ≤ w'.heap.size
  block : ∀ k, k < w.heap.size → k ≠ mb → w'.heap[k]? = w.heap[k]?
section
variable {mb : Nat} {w w' w'' : World}
theorem Kept.refl : Kept mb w w := ⟨rfl, rfl, rfl, Nat.le_refl _, fun _ _ _ => rfl⟩
theorem Kept.trans (h : Kept mb w w') (h' : Kept mb w' w'') : Kept mb w w'' :=
  ⟨h'.os.trans h.os, h'.tape.trans h.tape, h'.output.trans h.output, Nat.le_trans h.size h'.size, fun k hk hne => (h'.block k (Nat.lt_of_lt_of_le hk h.size) hne).trans (h.block k hk hne)⟩
theorem Kept.alloc (h : Kept mb w w') (o : Obj) : Kept mb w (w'.alloc o) :=
  h.trans ⟨rfl, rfl, rfl, by simp, fun k hk _ => Below.heap_alloc _ _ _ hk⟩
theorem Kept.ext (h : Kept mb w w') (x : Ext) : Kept mb w (w'.ext x) := h.trans ⟨rfl, rfl, rfl, by rw [size_ext]; omega, fun k hk _ => heap_ext hk⟩
theorem Kept.drew (h : Kept mb w w') : Kept mb w w'.drew := ⟨h.os, h.tape, h.output, h.size, h.block⟩
theorem Kept.drewN (h : Kept mb w w') (n : Nat) : Kept mb w (w'.drewN n) := ⟨h.os, h.tape, h.output, h.size, h.block⟩
theorem Kept.setCell (h : Kept mb w w') {b o : Nat} (hb : w.heap.size ≤ b) (v : Value) : Kept mb w (w'.setCell ⟨b, o, none⟩ v) :=
  ⟨h.os, h.tape, h.output, by simpa [World.setCell] using h.size, fun k hk hne => (Below.heap_setCell _ _ _ _ (show k ≠ b by omega)).trans (h.block k hk hne)⟩
theorem Kept.setMap (h : Kept mb w w') (es : Array MapEntry) (c : Nat) : Kept mb w (w'.setMap mb es c) :=
  h.trans ⟨setMap_os.1, setMap_os.2.1, setMap_os.2.2, by rw [size_setMap]; omega, fun k _ hne => heap_setMap_other hne⟩
theorem Kept.below {B : Nat} {v : World} (hb : Below B v w) (h : Kept mb w w') (hm : B ≤ mb) (hB : B ≤ w.heap.size) : Below B v w' :=
  hb.trans ⟨h.os, h.tape, h.output, by have := h.size; omega, fun k hk => h.block k (by omega) (by omega)⟩
theorem Kept.cell (h : Kept mb w w') {b o : Nat} {v : Value} (hv : w.cell? ⟨b, o, none⟩ = some v) (hb : b ≠ mb) : w'.cell? ⟨b, o, none⟩ = some v := by
  have hlt : b < w.heap.size := by
    apply Nat.lt_of_not_le
    intro hn
    simp [World.cell?, Array.getElem?_eq_none hn] at hv
  rw [World.cell?_of_block (h.block b hlt hb)]
  exact hv
theorem Kept.of_ext (x : Ext) : Kept mb w (w.ext x) := Kept.refl.ext x
end
end Go.Tk
