/- GENERAL WORDS, over any program: a slice that came in, as a list of things; its cells while nothing of it is written. -/
import Derived.Test.YtomcekjhehceoaaFrame
import Derived.Test.YtomcekjhehceoaaList
set_option linter.unusedVariables false
set_option linter.unusedSimpArgs false
namespace Go.Tk
open Go.RowKit Go.WideShapes Go.ChangeShapes Go.Proofs.Ytomcekjhehceoaa

theorem cellsQ_fr {w W : World} {b base : Nat} (h : Fr [] w W) (hb : b < w.heap.size) : ∀ (vs : List Value) (j : Nat), cellsQ w b base vs j → cellsQ W b base vs j
  | [], _, _ => trivial
  | _ :: vs, j, hq => ⟨(h.cell hb).trans hq.1, cellsQ_fr h hb vs (j + 1) hq.2⟩
/-- one cell of a block that is owned -/
theorem Mem.ptCell {w0 w : World} {F : List Nat} {L : List Asn} (h : Mem w0 F w L) {b : Nat} {cs : List Value} {t : TypeId} (hm : Asn.pt b cs t ∈ L) {j : Nat} {v : Value} (hv : cs[j]? = some v) : w.cell? ⟨b, j, none⟩ = some v := by
  have := h.hold _ hm
  rw [cell_of_heap this]
  simpa using hv
section
variable {α : Type}
/-- the argument v is a slice of the things l, 'size' cells each -/
def ArgList (w : World) (size : Nat) (cs : α → List Value) (v : Value) (l : List α) : Prop :=
  l.length ≤ 1048576 ∧ ∃ A c, v = .slice A l.length c ∧ ∀ (i : Nat) (a : α), l[i]? = some a → ∃ b off, A = some ⟨b, off, none⟩ ∧ b < w.heap.size ∧ cellsQ w b (off + i * size) (cs a) 0
theorem arg_view {w W : World} {b base : Nat} {vs : List Value} (hb : b < w.heap.size) (hq : cellsQ w b base vs 0) (h : Fr [] w W) : roomP b W.heap.size ∧ cellsQ W b base vs 0 :=
  ⟨roomP_of (Nat.lt_of_lt_of_le hb h.size), cellsQ_fr h hb vs 0 hq⟩
theorem read_list {P : Program} {w : World} {N f : Nat} {t e : TypeId} {size : Nat} {cs : α → List Value} {ok : α → Prop} (ht : P.underlying t = some (.slice e)) (hc : P.cellsOf e = size) (hs : 0 < size)
    (hread : ∀ (f' : Nat) (l : List Value), Typed P w N f' e l → ∃ a, ok a ∧ l = cs a) {v : Value} (hN : N ≤ 1048576) (h : Typed P w N f t [v]) : ∃ l : List α, ArgList w size cs v l ∧ ∀ a ∈ l, ok a := by
  obtain ⟨A, len, cap, f', hv, hlen, hi⟩ := typed_slice ht (by rw [hc]; omega) h
  rw [hc] at hi
  have hall : ∀ i, i < len → ∃ a : α, ok a ∧ ∃ b off, A = some ⟨b, off, none⟩ ∧ b < w.heap.size ∧ cellsQ w b (off + i * size) (cs a) 0 := by
    intro i hlt
    obtain ⟨b, off, cs', hA, hb, hcl, hcc, hty⟩ := hi i hlt
    obtain ⟨a, ha, rfl⟩ := hread _ _ hty
    refine ⟨a, ha, b, off, hA, hb, cellsQ_of _ _ (fun j u hu => ?_)⟩
    rw [Nat.zero_add]
    exact hcc j u hu
  obtain ⟨l, hl, hr⟩ := list_of_all hall
  subst hl
  refine ⟨l, ⟨by omega, A, cap, by simpa using hv, fun i a hia => (hr i a hia).2⟩, fun a ha => ?_⟩
  obtain ⟨i, hi', rfl⟩ := List.getElem_of_mem ha
  exact (hr i _ (List.getElem?_eq_getElem hi')).1
end
end Go.Tk
