/- WALK: what ProposerOneValue reads (events), and small laws on its world. -/
import Derived.Test.YtkhpikjmhamppaaPx11
set_option linter.unusedVariables false
set_option linter.unusedSimpArgs false
namespace Go.Proofs.Ytkhpikjmhamppaa
open Go.RowKit Go.WideShapes Go.ChangeShapes Go.Tk
theorem len4' {l : List Value} (h : l.length = 4) : ∃ a b c d, l = [a, b, c, d] := by
  match l, h with
  | [a, b, c, d], _ => exact ⟨a, b, c, d, rfl⟩
theorem cells_event : Try.prog.cellsOf 81 = 4 := by kernel_rfl
theorem read_event {w : World} {N f : Nat} {cs : List Value} (h : Typed Try.prog w N f 81 cs) : ∃ e : Ev, (inI64 e.kind ∧ inI64 e.a ∧ inI64 e.b) ∧ cs = e.cells := by
  obtain ⟨f', hl, hf⟩ := typed_struct Try.underlying81 h
  obtain ⟨c0, c1, c2, c3, rfl⟩ := len4' (hl.trans cells_event)
  have h0 : Typed Try.prog w N f' 3 (([c0, c1, c2, c3].drop 0).take (Try.prog.cellsOf 3)) := hf 0 _ rfl
  have h1 : Typed Try.prog w N f' 3 (([c0, c1, c2, c3].drop 1).take (Try.prog.cellsOf 3)) := hf 1 _ rfl
  have h2 : Typed Try.prog w N f' 3 (([c0, c1, c2, c3].drop 2).take (Try.prog.cellsOf 3)) := hf 2 _ rfl
  have h3 : Typed Try.prog w N f' 9 (([c0, c1, c2, c3].drop 3).take (Try.prog.cellsOf 9)) := hf 3 _ rfl
  simp only [cells_int, cells_string] at h0 h1 h2 h3
  obtain ⟨a, e0, ha⟩ := typed_int Try.underlying3 h0
  obtain ⟨b, e1, hb⟩ := typed_int Try.underlying3 h1
  obtain ⟨c, e2, hc⟩ := typed_int Try.underlying3 h2
  obtain ⟨s, e3, hs⟩ := typed_string Try.underlying9 h3
  simp at e0 e1 e2 e3
  exact ⟨⟨a, b, c, s⟩, ⟨bound64 ha, bound64 hb, bound64 hc⟩, by simp only [Ev.cells, e0, e1, e2, e3]⟩
def strCells (v : ByteArray) : List Value := [.string v]
theorem strTy : ElTy Try.prog 78 9 1 strCells .empty := ⟨Try.underlying78, by kernel_rfl, by kernel_rfl, by omega, fun _ => rfl, fun a u h => by simp [strCells] at h; subst h; rfl⟩
/-- a slice of pointers -/
def optCells (o : Option Nat) : List Value := [.pointer (o.map fun b => ⟨b, 0, none⟩)]
theorem listA_some_eq {e : TypeId} {A : Option Addr} {c : Nat} {l : List Nat} : listA e 1 optCells A c (l.map some) = listA e 1 ptrCells A c l := by
  have e1 : (l.map some).flatMap optCells = l.flatMap ptrCells := by rw [List.flatMap_map]; rfl
  have e2 : (l.map some).length = l.length := List.length_map ..
  unfold listA
  simp only [e1, e2]
section
variable {st e : TypeId} {A : Option Addr} {c : Nat} {l : List Nat} {w0 w : World} {F : List Nat} {L : List Asn} {ops : Array Oper} {rest : List Oper} {o : Oper} {a : Act} {Q : Exit → Act → World → Prop}
theorem _root_.Go.Tk.ElTy.wl_ptr (T : ElTy Try.prog st e 1 optCells none) (h : Mem w0 F w (listA e 1 ptrCells A c l :: L)) (hgd : o.guard = none) {s x : Operand} (ho : o.op = .call { callee := .builtin .append, args := #[s, x], argTypes := #[st, st] })
    {n0 : Nat} (hl : l.length = n0) (hs : a.eval s = .slice A n0 c) (b : Nat) {B : Option Addr} {c2 : Nat} (hx : a.eval x = .slice B 1 c2) (hsrc : Src w B 1 1 ([b].flatMap ptrCells)) (hn : l.length + 1 ≤ 100000000)
    (hK : ∀ A' c' w', Mem w0 F w' (listA e 1 ptrCells A' c' (l ++ [b]) :: L) → wpList Try.prog ops Q rest (a.put o.dst (.slice A' (l.length + 1) c')) w') : wpList Try.prog ops Q (o :: rest) a w := by
  rw [← listA_some_eq] at h
  refine T.wl_app h hgd ho (n0 := n0) (by rw [List.length_map]; exact hl) hs [some b] (n := 1) rfl hx hsrc (by simpa using hn) (fun A' c' w' hM => ?_)
  have e1 : l.map some ++ [some b] = (l ++ [b]).map some := by simp
  rw [e1, listA_some_eq] at hM
  have := hK A' c' w' hM
  simpa using this
end
theorem tabPtr : ElTy Try.prog 68 75 1 optCells none := ⟨Try.underlying68, by kernel_rfl, by kernel_rfl, by omega, fun _ => rfl, fun a u h => by simp [optCells] at h; subst h; rfl⟩
theorem propPtr : ElTy Try.prog 69 24 1 optCells none := ⟨Try.underlying69, by kernel_rfl, by kernel_rfl, by omega, fun _ => rfl, fun a u h => by simp [optCells] at h; subst h; rfl⟩
theorem learnPtr : ElTy Try.prog 70 44 1 optCells none := ⟨Try.underlying70, by kernel_rfl, by kernel_rfl, by omega, fun _ => rfl, fun a u h => by simp [optCells] at h; subst h; rfl⟩
theorem ptList {α : Type} {e : TypeId} {size : Nat} {cs : α → List Value} {w0 w : World} {F : List Nat} {L : List Asn} {g : Nat} {l : List α} (hcs : ∀ a, (cs a).length = size) (h : Mem w0 F w (.pt g (l.flatMap cs) e :: L)) (hl : l.length ≤ maxLen) : Mem w0 F w (listA e size cs (some ⟨g, 0, none⟩) l.length l :: L) :=
  Mem.listShut (tail := []) hcs (by simpa using h) (by simp) (Nat.le_refl _) hl
theorem Move.round {n : Nat} {s : Px} {o : Option ByteArray} {s' : Px} (h : Move n s o s') : s'.round ≤ s.round + 1 := by
  cases h <;> (try simp only [beginS, voteS, prepS, accS, promS, learnS]) <;> omega
end Go.Proofs.Ytkhpikjmhamppaa
