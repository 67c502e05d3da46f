/- WHAT THE ARGUMENTS READ AS: entries, items, the ops of a script. -/
import Derived.Test.YtomcekjhehceoaaFrame
import Derived.Test.YtomcekjhehceoaaAlive20
set_option linter.unusedVariables false
set_option linter.unusedSimpArgs false
namespace Go.Proofs.Ytomcekjhehceoaa
open Go.RowKit Go.WideShapes Go.ChangeShapes Go.Tk
theorem len2 {l : List Value} (h : l.length = 2) : ∃ a b, l = [a, b] := by
  match l, h with
  | [a, b], _ => exact ⟨a, b, rfl⟩
theorem len4 {l : List Value} (h : l.length = 4) : ∃ a b c d, l = [a, b, c, d] := by
  match l, h with
  | [a, b, c, d], _ => exact ⟨a, b, c, d, rfl⟩
theorem len6 {l : List Value} (h : l.length = 6) : ∃ a b c d e f, l = [a, b, c, d, e, f] := by
  match l, h with
  | [a, b, c, d, e, f], _ => exact ⟨a, b, c, d, e, f, rfl⟩
theorem len8 {l : List Value} (h : l.length = 8) : ∃ a b c d e f g i, l = [a, b, c, d, e, f, g, i] := by
  match l, h with
  | [a, b, c, d, e, f, g, i], _ => exact ⟨a, b, c, d, e, f, g, i, rfl⟩
theorem one1 {a : Value} {v : Value} (h : [a] = [v]) : a = v := by simpa using h

theorem cells_string : Try.prog.cellsOf 9 = 1 := by kernel_rfl
theorem cells_int : Try.prog.cellsOf 3 = 1 := by kernel_rfl
theorem cells_u32 : Try.prog.cellsOf 32 = 1 := by kernel_rfl
theorem cells_u64 : Try.prog.cellsOf 28 = 1 := by kernel_rfl
theorem cells_bool : Try.prog.cellsOf 4 = 1 := by kernel_rfl
theorem cells_entry : Try.prog.cellsOf 65 = 2 := by kernel_rfl
theorem cells_entries : Try.prog.cellsOf 33 = 1 := by kernel_rfl
theorem cells_items : Try.prog.cellsOf 31 = 1 := by kernel_rfl
theorem cells_incs : Try.prog.cellsOf 34 = 4 := by kernel_rfl
theorem cells_item : Try.prog.cellsOf 36 = 8 := by kernel_rfl
section
variable {w : World} {N f : Nat}
theorem read_entry {cs : List Value} (h : Typed Try.prog w N f 65 cs) : ∃ a b : ByteArray, cs = [.string a, .string b] ∧ a.size ≤ N ∧ b.size ≤ N := by
  obtain ⟨f', hl, hf⟩ := typed_struct Try.underlying65 h
  obtain ⟨c0, c1, rfl⟩ := len2 (hl.trans cells_entry)
  have h0 : Typed Try.prog w N f' 9 (([c0, c1].drop 0).take (Try.prog.cellsOf 9)) := hf 0 _ rfl
  have h1 : Typed Try.prog w N f' 9 (([c0, c1].drop 1).take (Try.prog.cellsOf 9)) := hf 1 _ rfl
  simp only [cells_string] at h0 h1
  obtain ⟨a, e0, ha⟩ := typed_string Try.underlying9 h0
  obtain ⟨b, e1, hb⟩ := typed_string Try.underlying9 h1
  simp at e0 e1
  exact ⟨a, b, by rw [e0, e1], ha, hb⟩
theorem read_ents {v : Value} (hN : N ≤ 1048576) (h : Typed Try.prog w N f 33 [v]) : ∃ l, Ents w v l := by
  obtain ⟨A, len, cap, f', hv, hlen, hi⟩ := typed_slice Try.underlying33 (by rw [cells_entry]; omega) h
  rw [cells_entry] at hi
  have hall : ∀ i, i < len → ∃ x : ByteArray × ByteArray, (x.1.size ≤ N ∧ x.2.size ≤ N) ∧ ∃ b off, A = some ⟨b, off, none⟩ ∧ b < w.heap.size ∧ w.cell? ⟨b, off + i * 2, none⟩ = some (.string x.1) ∧ w.cell? ⟨b, off + i * 2 + 1, none⟩ = some (.string x.2) := by
    intro i hlt
    obtain ⟨b, off, cs', hA, hb, hcl, hc, ht⟩ := hi i hlt
    obtain ⟨k, u, rfl, hk, hu⟩ := read_entry ht
    exact ⟨(k, u), ⟨hk, hu⟩, b, off, hA, hb, hc 0 _ rfl, hc 1 _ rfl⟩
  obtain ⟨l, hl, hr⟩ := list_of_all hall
  subst hl
  refine ⟨l, by omega, fun e he => ?_, A, cap, one1 hv, fun i e he => (hr i e he).2⟩
  obtain ⟨i, hi⟩ := List.getElem?_of_mem he
  have := (hr i e hi).1
  omega
theorem read_incs {cs : List Value} (h : Typed Try.prog w N f 34 cs) : ∃ inc : Nat → Int, cs = [.int .u32 (inc 0), .int .u32 (inc 1), .int .u32 (inc 2), .int .u32 (inc 3)] ∧ ∀ i, i < 4 → (Lit.int .u32 (inc i)).wf = true := by
  obtain ⟨f', hl, hf⟩ := typed_array Try.underlying34 h
  obtain ⟨c0, c1, c2, c3, rfl⟩ := len4 (hl.trans cells_incs)
  have h0 := hf 0 (by omega)
  have h1 := hf 1 (by omega)
  have h2 := hf 2 (by omega)
  have h3 := hf 3 (by omega)
  simp only [cells_u32] at h0 h1 h2 h3
  obtain ⟨a0, e0, w0⟩ := typed_int Try.underlying32 h0
  obtain ⟨a1, e1, w1⟩ := typed_int Try.underlying32 h1
  obtain ⟨a2, e2, w2⟩ := typed_int Try.underlying32 h2
  obtain ⟨a3, e3, w3⟩ := typed_int Try.underlying32 h3
  simp at e0 e1 e2 e3
  refine ⟨fun i => if i = 0 then a0 else if i = 1 then a1 else if i = 2 then a2 else a3, by simp [e0, e1, e2, e3], fun i hi => ?_⟩
  have hcase : i = 0 ∨ i = 1 ∨ i = 2 ∨ i = 3 := by omega
  rcases hcase with rfl | rfl | rfl | rfl <;> simp [w0, w1, w2, w3]
theorem read_item {cs : List Value} (hN : N ≤ 1048576) (h : Typed Try.prog w N f 36 cs) : ∃ x : ItemR, cs = x.cells ∧ Ents w x.data x.ents ∧ (∀ i, i < 4 → (Lit.int .u32 (x.inc i)).wf = true) ∧ (Lit.int .i64 x.bucket).wf = true ∧ (Lit.int .u32 x.ver).wf = true := by
  obtain ⟨f', hl, hf⟩ := typed_struct Try.underlying36 h
  obtain ⟨c0, c1, c2, c3, c4, c5, c6, c7, rfl⟩ := len8 (hl.trans cells_item)
  have h0 : Typed Try.prog w N f' 3 (([c0, c1, c2, c3, c4, c5, c6, c7].drop 0).take (Try.prog.cellsOf 3)) := hf 0 _ rfl
  have h1 : Typed Try.prog w N f' 32 (([c0, c1, c2, c3, c4, c5, c6, c7].drop 1).take (Try.prog.cellsOf 32)) := hf 1 _ rfl
  have h2 : Typed Try.prog w N f' 4 (([c0, c1, c2, c3, c4, c5, c6, c7].drop 2).take (Try.prog.cellsOf 4)) := hf 2 _ rfl
  have h3 : Typed Try.prog w N f' 33 (([c0, c1, c2, c3, c4, c5, c6, c7].drop 3).take (Try.prog.cellsOf 33)) := hf 3 _ rfl
  have h4 : Typed Try.prog w N f' 34 (([c0, c1, c2, c3, c4, c5, c6, c7].drop 4).take (Try.prog.cellsOf 34)) := hf 4 _ rfl
  simp only [cells_int, cells_u32, cells_bool, cells_entries, cells_incs] at h0 h1 h2 h3 h4
  obtain ⟨a, e0, w0⟩ := typed_int Try.underlying3 h0
  obtain ⟨b, e1, w1⟩ := typed_int Try.underlying32 h1
  obtain ⟨c, e2⟩ := typed_bool Try.underlying4 h2
  obtain ⟨l, hl⟩ := read_ents hN h3
  obtain ⟨inc, e4, wi⟩ := read_incs h4
  simp at e0 e1 e2 e4
  exact ⟨⟨a, b, c, c3, l, inc⟩, by simp [ItemR.cells, e0, e1, e2, e4], hl, wi, w0, w1⟩
end
end Go.Proofs.Ytomcekjhehceoaa
