/- WALKS: what is done to an acceptor's table (Prepare, Accept, Get, Forget, Count): they come to plain functions on lists. -/
import Derived.Test.YtplliabmnhigbaaAccTab
set_option linter.unusedVariables false
set_option linter.unusedSimpArgs false
namespace Go.Proofs.Ytplliabmnhigbaa
open Go.RowKit Go.Tk

def prepare10 (most : Int) (m : Rows10) (i : Inst) (b : Ballot) : Acc × Ballot × Bool × Int × Rows10 :=
  if (promise10 most m i b).2.1 then ((promise10 most m i b).1.a, b, true, 0, (promise10 most m i b).2.2.2) else (noA, (promise10 most m i b).1.p, false, (promise10 most m i b).2.2.1, (promise10 most m i b).2.2.2)
theorem _root_.Go.Tk.Kept.heap {mb : Nat} {w w' : World} {k : Nat} {o : Obj} (h : Kept mb w w') (hk : w.heap[k]? = some o) (hne : k ≠ mb) : w'.heap[k]? = some o := (h.block k (lt_of_heap hk) hne).trans hk

set_option maxRecDepth 100000 in
set_option maxHeartbeats 2000000 in
theorem acc_Prepare (w : World) (tb mb : Nat) (most : Int) (m : Rows10) (i : Inst) (b : Ballot) (h : Tab w tb mb most m) (hi : i.wf) :
    Calls Try.prog 54 #[.pointer (some ⟨tb, 0, none⟩), i.val, b.val] w (fun e w' => e = .returned (.tuple #[(prepare10 most m i b).1.val, (prepare10 most m i b).2.1.val, .bool (prepare10 most m i b).2.2.1, .int .i64 (prepare10 most m i b).2.2.2.1]) ∧ Kept mb w w' ∧ MapAt instKey Row.val w' mb (prepare10 most m i b).2.2.2.2) := by
  have C := Lib.hid (fun W (hW : Tab W tb mb most m) => acc_promise W tb mb most m i b hW hi)
  obtain ⟨P, hP⟩ : ∃ P, P = prepare10 most m i b := ⟨_, rfl⟩
  rw [← hP]
  unfold prepare10 at hP
  generalize promise10 most m i b = pp at *
  obtain ⟨⟨⟨pr, pn⟩, ⟨ai, ⟨ar, an⟩, av⟩⟩, may, er, m'⟩ := pp
  simp only at hP C
  have HP := Lib.hid hP
  have H := Lib.hid h
  clear hP
  have hml := h.2.2.2.lt
  obtain ⟨e1, e2, e3, e4, e5, e6⟩ := roomy hml
  clear h
  obtain ⟨ix, ibk, irp, iix⟩ := i
  obtain ⟨br, bn⟩ := b
  simp only [Inst.val, Ballot.val, Acc.val, Row.val] at C ⊢
  have K4 : Kept mb w ((((w.alloc (.cells #[.int .u64 ix, .int .i64 ibk, .int .i64 irp, .int .u32 iix] 104)).alloc (.cells #[.int .u32 br, .int .u8 bn] 47)).alloc (.cells #[.bool false, .int .u32 0, .int .u8 0, .string ⟨#[]⟩] 131)).alloc (.cells #[.int .u32 0, .int .u8 0] 47)) := (((Kept.refl.alloc _).alloc _).alloc _).alloc _
  have T4 : Tab ((((w.alloc (.cells #[.int .u64 ix, .int .i64 ibk, .int .i64 irp, .int .u32 iix] 104)).alloc (.cells #[.int .u32 br, .int .u8 bn] 47)).alloc (.cells #[.bool false, .int .u32 0, .int .u8 0, .string ⟨#[]⟩] 131)).alloc (.cells #[.int .u32 0, .int .u8 0] 47)) tb mb most m := H.out.kept K4 ((((H.out.2.2.2.alloc _).alloc _).alloc _).alloc _)
  have HK4 := Lib.hid K4
  have HT4 := Lib.hid T4
  clear K4 T4
  go_enter Try.func54, Try.ntmps54
  go_wp2_with fail
  refine (C.out _ HT4.out).mono ?_
  rintro e w1 ⟨rfl, hk, hm1⟩
  have h1 : w1.heap[w.heap.size + 1]? = some (.cells #[.int .u32 br, .int .u8 bn] 47) := hk.heap (hp_alloc _ (hp_alloc _ (hp_new (by simp)))) (by omega)
  have h2 : w1.heap[w.heap.size + 1 + 1]? = some (.cells #[.bool false, .int .u32 0, .int .u8 0, .string ⟨#[]⟩] 131) := hk.heap (hp_alloc _ (hp_new (by simp))) (by omega)
  have h3 : w1.heap[w.heap.size + 1 + 1 + 1]? = some (.cells #[.int .u32 0, .int .u8 0] 47) := hk.heap (hp_new (by simp)) (by omega)
  have l1 := lt_of_heap h1
  have l2 := lt_of_heap h2
  have l3 := lt_of_heap h3
  have f2 : ∀ j, w1.frozen? ⟨w.heap.size + 1 + 1, j, none⟩ = false := fun j => frozen_of_heap h2
  have f3 : ∀ j, w1.frozen? ⟨w.heap.size + 1 + 1 + 1, j, none⟩ = false := fun j => frozen_of_heap h3
  have c1 := fun j => cell_of_heap (i := j) h1
  have c2 := fun j => cell_of_heap (i := j) h2
  have c3 := fun j => cell_of_heap (i := j) h3
  have c10 := (c1 0).trans rfl
  have c11 := (c1 1).trans rfl
  have c20 := (c2 0).trans rfl
  have c21 := (c2 1).trans rfl
  have c22 := (c2 2).trans rfl
  have c23 := (c2 3).trans rfl
  have c30 := (c3 0).trans rfl
  have c31 := (c3 1).trans rfl
  simp only [List.getElem?_toArray, List.getElem?_cons_zero, List.getElem?_cons_succ] at c10 c11 c20 c21 c22 c23 c30 c31
  have HK := Lib.hid (HK4.out.trans hk)
  have HM1 := Lib.hid hm1
  have hsz : w.heap.size ≤ w1.heap.size := HK.out.size
  clear h1 h2 h3 c1 c2 c3 hk hm1 C
  cases may
  · obtain rfl : P = (noA, ⟨pr, pn⟩, false, er, m') := by rw [HP.out]; rfl
    simp only [noA, noB, ByteArray.empty]
    go_upto_region 3 with fail
    go_region
    all_goals
      go_wp2
      refine bodyPost_ret (v := .tuple #[.agg #[.bool false, .int .u32 0, .int .u8 0, .string ⟨#[]⟩], .agg #[.int .u32 pr, .int .u8 pn], .bool false, .int .i64 er]) ?_ rfl ⟨?_, ?_, ?_⟩
      · simp [results, Try.results54, go_sem, c20, c21, c22, c23, c30, c31, l1, l2, l3]
      · rfl
      · exact (((((((HK.out.setCell (by (try simp only [World.size_alloc, size_ext, World.size_setCell]); omega) _).setCell (by (try simp only [World.size_alloc, size_ext, World.size_setCell]); omega) _).setCell (by (try simp only [World.size_alloc, size_ext, World.size_setCell]); omega) _).setCell (by (try simp only [World.size_alloc, size_ext, World.size_setCell]); omega) _).setCell (by (try simp only [World.size_alloc, size_ext, World.size_setCell]); omega) _).setCell (by (try simp only [World.size_alloc, size_ext, World.size_setCell]); omega) _).alloc _).drew
      · exact (HM1.out.setCell.setCell.setCell.setCell.setCell.setCell.alloc _).drew
  · obtain rfl : P = (⟨ai, ⟨ar, an⟩, av⟩, ⟨br, bn⟩, true, 0, m') := by rw [HP.out]; rfl
    go_upto_region 4 with fail
    go_region
    all_goals
      go_wp2
      refine bodyPost_ret (v := .tuple #[.agg #[.bool ai, .int .u32 ar, .int .u8 an, .string av], .agg #[.int .u32 br, .int .u8 bn], .bool true, .int .i64 0]) ?_ rfl ⟨?_, ?_, ?_⟩
      · simp [results, Try.results54, go_sem, c20, c21, c22, c23, c30, c31, l1, l2, l3]
      · rfl
      · exact (((((((HK.out.setCell (by (try simp only [World.size_alloc, size_ext, World.size_setCell]); omega) _).setCell (by (try simp only [World.size_alloc, size_ext, World.size_setCell]); omega) _).setCell (by (try simp only [World.size_alloc, size_ext, World.size_setCell]); omega) _).setCell (by (try simp only [World.size_alloc, size_ext, World.size_setCell]); omega) _).setCell (by (try simp only [World.size_alloc, size_ext, World.size_setCell]); omega) _).setCell (by (try simp only [World.size_alloc, size_ext, World.size_setCell]); omega) _).alloc _).drew
      · exact (HM1.out.setCell.setCell.setCell.setCell.setCell.setCell.alloc _).drew
end Go.Proofs.Ytplliabmnhigbaa
