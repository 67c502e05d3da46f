/- WHAT THE ARGUMENTS READ AS: a transaction. -/
import Derived.Test.YtplliabmnhigbaaAlive19
import Derived.Test.YtplliabmnhigbaaRead18
set_option linter.unusedVariables false
set_option linter.unusedSimpArgs false
namespace Go.Proofs.Ytplliabmnhigbaa
open Go.RowKit Go.WideShapes Go.ChangeShapes Go.Tk
theorem items_txs {w : World} {v : Value} {l : List ItemR} (h : Items w v l) : ∃ (A : Option Addr) (c : Nat) (s : List ItS), v = .slice A s.length c ∧ s.map ItS.r = l ∧ s.length ≤ 1048576 ∧ (∀ x ∈ s, Ents w (.slice x.B x.ents.length x.d) x.ents) ∧ At 8 itCells w A s := by
  obtain ⟨A, c, s, h1, h2, h3, h4, h5⟩ := items_s h
  exact ⟨A, c, s, h1, h2, h3, h4, h5⟩
theorem read_txs {w : World} {N f : Nat} {cs : List Value} (hN : N ≤ 1048576) (h : Typed Try.prog w N f 26 cs) : ∃ t : TxS, Value.agg cs.toArray = t.val ∧ t.At w := by
  obtain ⟨t, ht, hi, h0, h1, h2⟩ := read_tx hN h
  obtain ⟨A, c, s, hv, hs, hl, he, ha⟩ := items_txs hi
  have hid : (Lit.int .u64 t.id).wf = true := by
    obtain ⟨f', hl, hf⟩ := typed_struct Try.underlying26 h
    have h0 : Typed Try.prog w N f' 22 ((cs.drop 0).take (Try.prog.cellsOf 22)) := hf 0 _ rfl
    rw [cells_u64, ht] at h0
    obtain ⟨a, e0, w0⟩ := typed_int Try.underlying22 h0
    simp at e0
    rw [e0]
    exact w0
  refine ⟨⟨t.id, t.client, t.m0, t.m1, t.m2, A, c, s⟩, ?_, hl, ha, he, hid, h0, h1, h2⟩
  rw [ht, hv]
  rfl
end Go.Proofs.Ytplliabmnhigbaa
