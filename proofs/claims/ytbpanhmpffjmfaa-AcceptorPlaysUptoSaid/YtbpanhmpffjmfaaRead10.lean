/- WHAT THE ARGUMENTS READ AS: instances, ballots, ops of a script. -/
import Derived.Test.YtbpanhmpffjmfaaFrame
import Derived.Test.YtbpanhmpffjmfaaAccTab
set_option linter.unusedVariables false
set_option linter.unusedSimpArgs false
namespace Go.Proofs.Ytbpanhmpffjmfaa
open Go.RowKit Go.WideShapes Go.ChangeShapes Go.Tk

theorem len2 {l : List Value} (h : l.length = 2) : ∃ a b, l = [a, b] := by
  match l, h with
  | [a, b], _ => exact ⟨a, b, rfl⟩
theorem len4 {l : List Value} (h : l.length = 4) : ∃ a b c d, l = [a, b, c, d] := by
  match l, h with
  | [a, b, c, d], _ => exact ⟨a, b, c, d, rfl⟩
theorem len8 {l : List Value} (h : l.length = 8) : ∃ a b c d e f g i, l = [a, b, c, d, e, f, g, i] := by
  match l, h with
  | [a, b, c, d, e, f, g, i], _ => exact ⟨a, b, c, d, e, f, g, i, rfl⟩
theorem one1 {a : Value} {v : Value} (h : [a] = [v]) : a = v := by simpa using h
theorem cells_string : Try.prog.cellsOf 9 = 1 := by kernel_rfl
theorem cells_int : Try.prog.cellsOf 3 = 1 := by kernel_rfl
theorem cells_u32 : Try.prog.cellsOf 29 = 1 := by kernel_rfl
theorem cells_u8 : Try.prog.cellsOf 5 = 1 := by kernel_rfl
theorem cells_u64 : Try.prog.cellsOf 28 = 1 := by kernel_rfl
theorem cells_inst : Try.prog.cellsOf 31 = 4 := by kernel_rfl
theorem cells_ballot : Try.prog.cellsOf 33 = 2 := by kernel_rfl
theorem cells_op : Try.prog.cellsOf 37 = 8 := by kernel_rfl
theorem nonneg32 {n : Int} (h : (Lit.int .u32 n).wf = true) : 0 ≤ n := by
  simp only [Lit.wf, IntKind.min, IntKind.max, IntKind.signed, IntKind.bits, Bool.and_eq_true, decide_eq_true_eq] at h
  simp at h
  omega
theorem nonneg8 {n : Int} (h : (Lit.int .u8 n).wf = true) : 0 ≤ n := by
  simp only [Lit.wf, IntKind.min, IntKind.max, IntKind.signed, IntKind.bits, Bool.and_eq_true, decide_eq_true_eq] at h
  simp at h
  omega
section
variable {w : World} {N f : Nat}
theorem read_inst {cs : List Value} (h : Typed Try.prog w N f 31 cs) : ∃ i : Inst, i.wf ∧ cs = [.int .u64 i.tx, .int .i64 i.b, .int .i64 i.r, .int .u32 i.ix] := by
  obtain ⟨f', hl, hf⟩ := typed_struct Try.underlying31 h
  obtain ⟨c0, c1, c2, c3, rfl⟩ := len4 (hl.trans cells_inst)
  have h0 : Typed Try.prog w N f' 28 (([c0, c1, c2, c3].drop 0).take (Try.prog.cellsOf 28)) := hf 0 _ rfl
  have h1 : Typed Try.prog w N f' 3 (([c0, c1, c2, c3].drop 1).take (Try.prog.cellsOf 3)) := hf 1 _ rfl
  have h2 : Typed Try.prog w N f' 3 (([c0, c1, c2, c3].drop 2).take (Try.prog.cellsOf 3)) := hf 2 _ rfl
  have h3 : Typed Try.prog w N f' 29 (([c0, c1, c2, c3].drop 3).take (Try.prog.cellsOf 29)) := hf 3 _ rfl
  simp only [cells_u64, cells_int, cells_u32] at h0 h1 h2 h3
  obtain ⟨a, e0, ha⟩ := typed_int Try.underlying28 h0
  obtain ⟨b, e1, hb⟩ := typed_int Try.underlying3 h1
  obtain ⟨c, e2, hc⟩ := typed_int Try.underlying3 h2
  obtain ⟨d, e3, hd⟩ := typed_int Try.underlying29 h3
  simp at e0 e1 e2 e3
  exact ⟨⟨a, b, c, d⟩, ⟨ha, hb, hc, hd⟩, by rw [e0, e1, e2, e3]⟩
theorem read_ballot {cs : List Value} (h : Typed Try.prog w N f 33 cs) : ∃ b : Ballot, (0 ≤ b.r ∧ 0 ≤ b.n) ∧ cs = [.int .u32 b.r, .int .u8 b.n] := by
  obtain ⟨f', hl, hf⟩ := typed_struct Try.underlying33 h
  obtain ⟨c0, c1, rfl⟩ := len2 (hl.trans cells_ballot)
  have h0 : Typed Try.prog w N f' 29 (([c0, c1].drop 0).take (Try.prog.cellsOf 29)) := hf 0 _ rfl
  have h1 : Typed Try.prog w N f' 5 (([c0, c1].drop 1).take (Try.prog.cellsOf 5)) := hf 1 _ rfl
  simp only [cells_u32, cells_u8] at h0 h1
  obtain ⟨a, e0, ha⟩ := typed_int Try.underlying29 h0
  obtain ⟨b, e1, hb⟩ := typed_int Try.underlying5 h1
  simp at e0 e1
  exact ⟨⟨a, b⟩, ⟨nonneg32 ha, nonneg8 hb⟩, by rw [e0, e1]⟩
/-- an op of a script -/
structure OpR where
  kind : Int
  i : Inst
  b : Ballot
  v : ByteArray
theorem read_op {cs : List Value} (h : Typed Try.prog w N f 37 cs) : ∃ o : OpR, (o.i.wf ∧ 0 ≤ o.b.r ∧ 0 ≤ o.b.n) ∧ cs = [.int .i64 o.kind, .int .u64 o.i.tx, .int .i64 o.i.b, .int .i64 o.i.r, .int .u32 o.i.ix, .int .u32 o.b.r, .int .u8 o.b.n, .string o.v] := by
  obtain ⟨f', hl, hf⟩ := typed_struct Try.underlying37 h
  obtain ⟨c0, c1, c2, c3, c4, c5, c6, c7, rfl⟩ := len8 (hl.trans cells_op)
  have h0 : Typed Try.prog w N f' 3 (([c0, c1, c2, c3, c4, c5, c6, c7].drop 0).take (Try.prog.cellsOf 3)) := hf 0 _ rfl
  have h1 : Typed Try.prog w N f' 31 (([c0, c1, c2, c3, c4, c5, c6, c7].drop 1).take (Try.prog.cellsOf 31)) := hf 1 _ rfl
  have h2 : Typed Try.prog w N f' 33 (([c0, c1, c2, c3, c4, c5, c6, c7].drop 5).take (Try.prog.cellsOf 33)) := hf 2 _ rfl
  have h3 : Typed Try.prog w N f' 9 (([c0, c1, c2, c3, c4, c5, c6, c7].drop 7).take (Try.prog.cellsOf 9)) := hf 3 _ rfl
  simp only [cells_int, cells_inst, cells_ballot, cells_string] at h0 h1 h2 h3
  obtain ⟨a, e0, ha⟩ := typed_int Try.underlying3 h0
  obtain ⟨i, hi, e1⟩ := read_inst h1
  obtain ⟨b, hb, e2⟩ := read_ballot h2
  obtain ⟨s, e3, hs⟩ := typed_string Try.underlying9 h3
  simp at e0 e1 e2 e3
  obtain ⟨x1, x2, x3, x4⟩ := e1
  obtain ⟨y1, y2⟩ := e2
  exact ⟨⟨a, i, b, s⟩, ⟨hi, hb⟩, by simp only [e0, x1, x2, x3, x4, y1, y2, e3]⟩
/-- a script in memory -/
def Script (w : World) (v : Value) (l : List OpR) : Prop :=
  l.length ≤ 1048576 ∧ ∃ A c, v = .slice A l.length c ∧ ∀ (i : Nat) (o : OpR), l[i]? = some o → (o.i.wf ∧ 0 ≤ o.b.r ∧ 0 ≤ o.b.n) ∧ ∃ b off, A = some ⟨b, off, none⟩ ∧ b < w.heap.size ∧
    w.cell? ⟨b, off + i * 8, none⟩ = some (.int .i64 o.kind) ∧ w.cell? ⟨b, off + i * 8 + 1, none⟩ = some (.int .u64 o.i.tx) ∧ w.cell? ⟨b, off + i * 8 + 2, none⟩ = some (.int .i64 o.i.b) ∧ w.cell? ⟨b, off + i * 8 + 3, none⟩ = some (.int .i64 o.i.r) ∧
    w.cell? ⟨b, off + i * 8 + 4, none⟩ = some (.int .u32 o.i.ix) ∧ w.cell? ⟨b, off + i * 8 + 5, none⟩ = some (.int .u32 o.b.r) ∧ w.cell? ⟨b, off + i * 8 + 6, none⟩ = some (.int .u8 o.b.n) ∧ w.cell? ⟨b, off + i * 8 + 7, none⟩ = some (.string o.v)
theorem read_script {v : Value} (hN : N ≤ 1048576) (h : Typed Try.prog w N f 22 [v]) : ∃ l, Script w v l := by
  obtain ⟨A, len, cap, f', hv, hlen, hi⟩ := typed_slice Try.underlying22 (by rw [cells_op]; omega) h
  rw [cells_op] at hi
  have hall : ∀ i, i < len → ∃ o : OpR, (o.i.wf ∧ 0 ≤ o.b.r ∧ 0 ≤ o.b.n) ∧ ∃ b off, A = some ⟨b, off, none⟩ ∧ b < w.heap.size ∧
    w.cell? ⟨b, off + i * 8, none⟩ = some (.int .i64 o.kind) ∧ w.cell? ⟨b, off + i * 8 + 1, none⟩ = some (.int .u64 o.i.tx) ∧ w.cell? ⟨b, off + i * 8 + 2, none⟩ = some (.int .i64 o.i.b) ∧ w.cell? ⟨b, off + i * 8 + 3, none⟩ = some (.int .i64 o.i.r) ∧
    w.cell? ⟨b, off + i * 8 + 4, none⟩ = some (.int .u32 o.i.ix) ∧ w.cell? ⟨b, off + i * 8 + 5, none⟩ = some (.int .u32 o.b.r) ∧ w.cell? ⟨b, off + i * 8 + 6, none⟩ = some (.int .u8 o.b.n) ∧ w.cell? ⟨b, off + i * 8 + 7, none⟩ = some (.string o.v) := by
    intro i hlt
    obtain ⟨b, off, cs', hA, hb, hcl, hc, ht⟩ := hi i hlt
    obtain ⟨o, ho, rfl⟩ := read_op ht
    exact ⟨o, ho, b, off, hA, hb, hc 0 _ rfl, hc 1 _ rfl, hc 2 _ rfl, hc 3 _ rfl, hc 4 _ rfl, hc 5 _ rfl, hc 6 _ rfl, hc 7 _ rfl⟩
  obtain ⟨l, hl, hr⟩ := list_of_all hall
  subst hl
  exact ⟨l, by omega, A, cap, one1 hv, hr⟩
end
end Go.Proofs.Ytbpanhmpffjmfaa
