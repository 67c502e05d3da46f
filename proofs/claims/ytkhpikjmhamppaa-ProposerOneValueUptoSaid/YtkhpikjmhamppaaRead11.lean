/- WHAT THE ARGUMENTS READ AS (chapter 11): ballots, what was accepted, what a promise tells, ops of a script. -/
import Derived.Test.YtkhpikjmhamppaaFrame
import Derived.Test.YtkhpikjmhamppaaAccTab
set_option linter.unusedVariables false
set_option linter.unusedSimpArgs false
namespace Go.Proofs.Ytkhpikjmhamppaa
open Go.RowKit Go.WideShapes Go.ChangeShapes Go.Tk

theorem len2 {l : List Value} (h : l.length = 2) : ∃ a b, l = [a, b] := by
  match l, h with
  | [a, b], _ => exact ⟨a, b, rfl⟩
theorem len4 {l : List Value} (h : l.length = 4) : ∃ a b c d, l = [a, b, c, d] := by
  match l, h with
  | [a, b, c, d], _ => exact ⟨a, b, c, d, rfl⟩
theorem len5 {l : List Value} (h : l.length = 5) : ∃ a b c d e, l = [a, b, c, d, e] := by
  match l, h with
  | [a, b, c, d, e], _ => exact ⟨a, b, c, d, e, rfl⟩
theorem len11 {l : List Value} (h : l.length = 11) : ∃ a b c d e f g i j k m, l = [a, b, c, d, e, f, g, i, j, k, m] := by
  match l, h with
  | [a, b, c, d, e, f, g, i, j, k, m], _ => exact ⟨a, b, c, d, e, f, g, i, j, k, m, rfl⟩
theorem one1 {a : Value} {v : Value} (h : [a] = [v]) : a = v := by simpa using h
theorem cells_string : Try.prog.cellsOf 9 = 1 := by kernel_rfl
theorem cells_int : Try.prog.cellsOf 3 = 1 := by kernel_rfl
theorem cells_bool : Try.prog.cellsOf 4 = 1 := by kernel_rfl
theorem cells_u32 : Try.prog.cellsOf 29 = 1 := by kernel_rfl
theorem cells_u8 : Try.prog.cellsOf 5 = 1 := by kernel_rfl
theorem cells_ballot : Try.prog.cellsOf 31 = 2 := by kernel_rfl
theorem cells_acc : Try.prog.cellsOf 36 = 4 := by kernel_rfl
theorem cells_told : Try.prog.cellsOf 38 = 5 := by kernel_rfl
theorem cells_op : Try.prog.cellsOf 48 = 11 := by kernel_rfl
theorem bound32 {n : Int} (h : (Lit.int .u32 n).wf = true) : 0 ≤ n ∧ n ≤ 4294967295 := by
  simp only [Lit.wf, IntKind.min, IntKind.max, IntKind.signed, IntKind.bits, Bool.and_eq_true, decide_eq_true_eq] at h
  simp at h
  omega
theorem bound8 {n : Int} (h : (Lit.int .u8 n).wf = true) : 0 ≤ n ∧ n ≤ 255 := by
  simp only [Lit.wf, IntKind.min, IntKind.max, IntKind.signed, IntKind.bits, Bool.and_eq_true, decide_eq_true_eq] at h
  simp at h
  omega
theorem bound64 {n : Int} (h : (Lit.int .i64 n).wf = true) : -9223372036854775808 ≤ n ∧ n ≤ 9223372036854775807 := by
  simp only [Lit.wf, IntKind.min, IntKind.max, IntKind.signed, IntKind.bits, Bool.and_eq_true, decide_eq_true_eq] at h
  simp at h
  omega
def Ballot.ok (b : Ballot) : Prop := (0 ≤ b.r ∧ b.r ≤ 4294967295) ∧ (0 ≤ b.n ∧ b.n ≤ 255)
section
variable {w : World} {N f : Nat}
theorem read_ballot {cs : List Value} (h : Typed Try.prog w N f 31 cs) : ∃ b : Ballot, b.ok ∧ cs = [.int .u32 b.r, .int .u8 b.n] := by
  obtain ⟨f', hl, hf⟩ := typed_struct Try.underlying31 h
  obtain ⟨c0, c1, rfl⟩ := len2 (hl.trans cells_ballot)
  have h0 : Typed Try.prog w N f' 29 (([c0, c1].drop 0).take (Try.prog.cellsOf 29)) := hf 0 _ rfl
  have h1 : Typed Try.prog w N f' 5 (([c0, c1].drop 1).take (Try.prog.cellsOf 5)) := hf 1 _ rfl
  simp only [cells_u32, cells_u8] at h0 h1
  obtain ⟨a, e0, ha⟩ := typed_int Try.underlying29 h0
  obtain ⟨b, e1, hb⟩ := typed_int Try.underlying5 h1
  simp at e0 e1
  exact ⟨⟨a, b⟩, ⟨bound32 ha, bound8 hb⟩, by rw [e0, e1]⟩
theorem read_acc {cs : List Value} (h : Typed Try.prog w N f 36 cs) : ∃ a : Acc, a.b.ok ∧ cs = [.bool a.is, .int .u32 a.b.r, .int .u8 a.b.n, .string a.v] := by
  obtain ⟨f', hl, hf⟩ := typed_struct Try.underlying36 h
  obtain ⟨c0, c1, c2, c3, rfl⟩ := len4 (hl.trans cells_acc)
  have h0 : Typed Try.prog w N f' 4 (([c0, c1, c2, c3].drop 0).take (Try.prog.cellsOf 4)) := hf 0 _ rfl
  have h1 : Typed Try.prog w N f' 31 (([c0, c1, c2, c3].drop 1).take (Try.prog.cellsOf 31)) := hf 1 _ rfl
  have h2 : Typed Try.prog w N f' 9 (([c0, c1, c2, c3].drop 3).take (Try.prog.cellsOf 9)) := hf 2 _ rfl
  simp only [cells_bool, cells_ballot, cells_string] at h0 h1 h2
  obtain ⟨a, e0⟩ := typed_bool Try.underlying4 h0
  obtain ⟨b, hb, e1⟩ := read_ballot h1
  obtain ⟨s, e2, hs⟩ := typed_string Try.underlying9 h2
  simp at e0 e1 e2
  obtain ⟨y1, y2⟩ := e1
  exact ⟨⟨a, b, s⟩, hb, by simp only [e0, y1, y2, e2]⟩
structure ToldR where
  from_ : Int
  a : Acc
theorem read_told {cs : List Value} (h : Typed Try.prog w N f 38 cs) : ∃ o : ToldR, ((-9223372036854775808 ≤ o.from_ ∧ o.from_ ≤ 9223372036854775807) ∧ o.a.b.ok) ∧ cs = [.int .i64 o.from_, .bool o.a.is, .int .u32 o.a.b.r, .int .u8 o.a.b.n, .string o.a.v] := by
  obtain ⟨f', hl, hf⟩ := typed_struct Try.underlying38 h
  obtain ⟨c0, c1, c2, c3, c4, rfl⟩ := len5 (hl.trans cells_told)
  have h0 : Typed Try.prog w N f' 3 (([c0, c1, c2, c3, c4].drop 0).take (Try.prog.cellsOf 3)) := hf 0 _ rfl
  have h1 : Typed Try.prog w N f' 36 (([c0, c1, c2, c3, c4].drop 1).take (Try.prog.cellsOf 36)) := hf 1 _ rfl
  simp only [cells_int, cells_acc] at h0 h1
  obtain ⟨a, e0, ha⟩ := typed_int Try.underlying3 h0
  obtain ⟨b, hb, e1⟩ := read_acc h1
  simp at e0 e1
  obtain ⟨y1, y2, y3, y4⟩ := e1
  exact ⟨⟨a, b⟩, ⟨bound64 ha, hb⟩, by simp only [e0, y1, y2, y3, y4]⟩
structure Op11 where
  kind : Int
  from_ : Int
  round : Int
  b : Ballot
  own : Bool
  a : Acc
  v : ByteArray
def Op11.ok (o : Op11) : Prop := (-9223372036854775808 ≤ o.from_ ∧ o.from_ ≤ 9223372036854775807) ∧ (0 ≤ o.round ∧ o.round ≤ 4294967295) ∧ o.b.ok ∧ o.a.b.ok
def Op11.cells (o : Op11) : List Value := [.int .i64 o.kind, .int .i64 o.from_, .int .u32 o.round, .int .u32 o.b.r, .int .u8 o.b.n, .bool o.own, .bool o.a.is, .int .u32 o.a.b.r, .int .u8 o.a.b.n, .string o.a.v, .string o.v]
theorem read_op11 {cs : List Value} (h : Typed Try.prog w N f 48 cs) : ∃ o : Op11, o.ok ∧ cs = o.cells := by
  obtain ⟨f', hl, hf⟩ := typed_struct Try.underlying48 h
  obtain ⟨c0, c1, c2, c3, c4, c5, c6, c7, c8, c9, ca, rfl⟩ := len11 (hl.trans cells_op)
  have h0 : Typed Try.prog w N f' 3 (([c0, c1, c2, c3, c4, c5, c6, c7, c8, c9, ca].drop 0).take (Try.prog.cellsOf 3)) := hf 0 _ rfl
  have h1 : Typed Try.prog w N f' 3 (([c0, c1, c2, c3, c4, c5, c6, c7, c8, c9, ca].drop 1).take (Try.prog.cellsOf 3)) := hf 1 _ rfl
  have h2 : Typed Try.prog w N f' 29 (([c0, c1, c2, c3, c4, c5, c6, c7, c8, c9, ca].drop 2).take (Try.prog.cellsOf 29)) := hf 2 _ rfl
  have h3 : Typed Try.prog w N f' 31 (([c0, c1, c2, c3, c4, c5, c6, c7, c8, c9, ca].drop 3).take (Try.prog.cellsOf 31)) := hf 3 _ rfl
  have h4 : Typed Try.prog w N f' 4 (([c0, c1, c2, c3, c4, c5, c6, c7, c8, c9, ca].drop 5).take (Try.prog.cellsOf 4)) := hf 4 _ rfl
  have h5 : Typed Try.prog w N f' 36 (([c0, c1, c2, c3, c4, c5, c6, c7, c8, c9, ca].drop 6).take (Try.prog.cellsOf 36)) := hf 5 _ rfl
  have h6 : Typed Try.prog w N f' 9 (([c0, c1, c2, c3, c4, c5, c6, c7, c8, c9, ca].drop 10).take (Try.prog.cellsOf 9)) := hf 6 _ rfl
  simp only [cells_int, cells_u32, cells_ballot, cells_bool, cells_acc, cells_string] at h0 h1 h2 h3 h4 h5 h6
  obtain ⟨k, e0, hk⟩ := typed_int Try.underlying3 h0
  obtain ⟨fr, e1, hfr⟩ := typed_int Try.underlying3 h1
  obtain ⟨ro, e2, hro⟩ := typed_int Try.underlying29 h2
  obtain ⟨b, hb, e3⟩ := read_ballot h3
  obtain ⟨ow, e4⟩ := typed_bool Try.underlying4 h4
  obtain ⟨a, ha, e5⟩ := read_acc h5
  obtain ⟨s, e6, hs⟩ := typed_string Try.underlying9 h6
  simp at e0 e1 e2 e3 e4 e5 e6
  obtain ⟨x1, x2⟩ := e3
  obtain ⟨y1, y2, y3, y4⟩ := e5
  exact ⟨⟨k, fr, ro, b, ow, a, s⟩, ⟨bound64 hfr, bound32 hro, hb, ha⟩, by simp only [Op11.cells, e0, e1, e2, x1, x2, e4, y1, y2, y3, y4, e6]⟩
end
end Go.Proofs.Ytkhpikjmhamppaa
