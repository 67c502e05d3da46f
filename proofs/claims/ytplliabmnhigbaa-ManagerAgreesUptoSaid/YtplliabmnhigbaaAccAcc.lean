/- WALK: a value is accepted (Accept), or not: it comes to the plain function. -/
import Derived.Test.YtplliabmnhigbaaAccAct
set_option linter.unusedVariables false
set_option linter.unusedSimpArgs false
namespace Go.Proofs.Ytplliabmnhigbaa
open Go.RowKit Go.Tk

def accept10 (most : Int) (m : Rows10) (i : Inst) (b : Ballot) (v : ByteArray) : Ballot × Bool × Int × Rows10 :=
  if (promise10 most m i b).2.1 then ((promise10 most m i b).1.p, true, (promise10 most m i b).2.2.1, mset (promise10 most m i b).2.2.2 i ⟨(promise10 most m i b).1.p, ⟨true, b, v⟩⟩) else ((promise10 most m i b).1.p, false, (promise10 most m i b).2.2.1, (promise10 most m i b).2.2.2)

set_option maxRecDepth 100000 in
set_option maxHeartbeats 2000000 in
theorem acc_Accept (w : World) (tb mb : Nat) (most : Int) (m : Rows10) (i : Inst) (b : Ballot) (v : ByteArray) (h : Tab w tb mb most m) (hi : i.wf) :
    Calls Try.prog 56 #[.pointer (some ⟨tb, 0, none⟩), i.val, b.val, .string v] w (fun e w' => e = .returned (.tuple #[(accept10 most m i b v).1.val, .bool (accept10 most m i b v).2.1, .int .i64 (accept10 most m i b v).2.2.1]) ∧ Kept mb w w' ∧ MapAt instKey Row.val w' mb (accept10 most m i b v).2.2.2) := by
  have C := Lib.hid (fun W (hW : Tab W tb mb most m) => acc_promise W tb mb most m i b hW hi)
  obtain ⟨P, hP⟩ : ∃ P, P = accept10 most m i b v := ⟨_, rfl⟩
  rw [← hP]
  unfold accept10 at hP
  generalize promise10 most m i b = pp at *
  obtain ⟨⟨⟨pr, pn⟩, ⟨ai, ⟨ar, an⟩, av⟩⟩, may, er, m'⟩ := pp
  simp only at hP C
  have HP := Lib.hid hP
  have H := Lib.hid h
  clear hP
  have hml := h.2.2.2.lt
  have k1 := Lib.hid h.2.1
  clear h
  obtain ⟨ix, ibk, irp, iix⟩ := i
  obtain ⟨br, bn⟩ := b
  simp only [Inst.val, Ballot.val, Row.val] at C ⊢
  have K4 : Kept mb w (((w.alloc (.cells #[.int .u64 ix, .int .i64 ibk, .int .i64 irp, .int .u32 iix] 104)).alloc (.cells #[.int .u32 br, .int .u8 bn] 47)).alloc (.cells #[.int .u32 0, .int .u8 0] 47)) := ((Kept.refl.alloc _).alloc _).alloc _
  have T4 : Tab (((w.alloc (.cells #[.int .u64 ix, .int .i64 ibk, .int .i64 irp, .int .u32 iix] 104)).alloc (.cells #[.int .u32 br, .int .u8 bn] 47)).alloc (.cells #[.int .u32 0, .int .u8 0] 47)) tb mb most m := H.out.kept K4 (((H.out.2.2.2.alloc _).alloc _).alloc _)
  have HK4 := Lib.hid K4
  have HT4 := Lib.hid T4
  clear K4 T4
  go_enter Try.func56, Try.ntmps56
  go_wp2_with fail
  refine (C.out _ HT4.out).mono ?_
  rintro e w1 ⟨rfl, hk, hm1⟩
  have h0 : w1.heap[w.heap.size]? = some (.cells #[.int .u64 ix, .int .i64 ibk, .int .i64 irp, .int .u32 iix] 104) := hk.heap (hp_alloc _ (hp_alloc _ (hp_new rfl))) (by omega)
  have h1 : w1.heap[w.heap.size + 1]? = some (.cells #[.int .u32 br, .int .u8 bn] 47) := hk.heap (hp_alloc _ (hp_new (by simp))) (by omega)
  have h2 : w1.heap[w.heap.size + 1 + 1]? = some (.cells #[.int .u32 0, .int .u8 0] 47) := hk.heap (hp_new (by simp)) (by omega)
  have l0 := lt_of_heap h0
  have l1 := lt_of_heap h1
  have l2 := lt_of_heap h2
  have f2 : ∀ j, w1.frozen? ⟨w.heap.size + 1 + 1, j, none⟩ = false := fun j => frozen_of_heap h2
  have c1 := fun j => cell_of_heap (i := j) h1
  have c2 := fun j => cell_of_heap (i := j) h2
  have c10 := (c1 0).trans rfl
  have c11 := (c1 1).trans rfl
  have c20 := (c2 0).trans rfl
  have c21 := (c2 1).trans rfl
  simp only [List.getElem?_toArray, List.getElem?_cons_zero, List.getElem?_cons_succ] at c10 c11 c20 c21
  have HK := Lib.hid (HK4.out.trans hk)
  have HM1 := Lib.hid hm1
  have hsz : w.heap.size ≤ w1.heap.size := HK.out.size
  have H0 := Lib.hid h0
  clear h0 h1 h2 c1 c2 hk hm1 C
  cases may
  · obtain rfl : P = (⟨pr, pn⟩, false, er, m') := by rw [HP.out]; rfl
    go_wp2
    refine bodyPost_ret (v := .tuple #[.agg #[.int .u32 pr, .int .u8 pn], .bool false, .int .i64 er]) ?_ rfl ⟨?_, ?_, ?_⟩
    · simp [results, Try.results56, go_sem, c20, c21, l2]
    · rfl
    · exact ((HK.out.setCell (by (try simp only [World.size_alloc, size_ext, World.size_setCell]); omega) _).setCell (by (try simp only [World.size_alloc, size_ext, World.size_setCell]); omega) _).alloc _
    · exact HM1.out.setCell.setCell.alloc _
  · obtain rfl : P = (⟨pr, pn⟩, true, er, mset m' ⟨ix, ibk, irp, iix⟩ ⟨⟨pr, pn⟩, ⟨true, ⟨br, bn⟩, v⟩⟩) := by rw [HP.out]; rfl
    go_upto_region 4 with fail
    have d1 : ((w1.alloc (.cells #[.int .u32 pr, .int .u8 pn, .bool true, .int .u32 br, .int .u8 bn, .string v] 156)).drew).cell? ⟨tb, 1, none⟩ = some (.map (some mb)) := ((HK.out.alloc _).drew).cell k1.out H.out.ne
    have hi0 : ((w1.alloc (.cells #[.int .u32 pr, .int .u8 pn, .bool true, .int .u32 br, .int .u8 bn, .string v] 156)).drew).heap[w.heap.size]? = some (.cells #[.int .u64 ix, .int .i64 ibk, .int .i64 irp, .int .u32 iix] 104) := hp_drew (hp_alloc _ H0.out)
    have hr0 : ((w1.alloc (.cells #[.int .u32 pr, .int .u8 pn, .bool true, .int .u32 br, .int .u8 bn, .string v] 156)).drew).heap[w1.heap.size]? = some (.cells #[.int .u32 pr, .int .u8 pn, .bool true, .int .u32 br, .int .u8 bn, .string v] 156) := hp_drew (hp_new rfl)
    have ci := fun j => cell_of_heap (i := j) hi0
    have cr := fun j => cell_of_heap (i := j) hr0
    have ci0 := (ci 0).trans rfl
    have ci1 := (ci 1).trans rfl
    have ci2 := (ci 2).trans rfl
    have ci3 := (ci 3).trans rfl
    have cr0 := (cr 0).trans rfl
    have cr1 := (cr 1).trans rfl
    have cr2 := (cr 2).trans rfl
    have cr3 := (cr 3).trans rfl
    have cr4 := (cr 4).trans rfl
    have cr5 := (cr 5).trans rfl
    simp only [List.getElem?_toArray, List.getElem?_cons_zero, List.getElem?_cons_succ] at ci0 ci1 ci2 ci3 cr0 cr1 cr2 cr3 cr4 cr5
    clear ci cr hi0 hr0
    have hmm : Hid (MapAt instKey Row.val ((w1.alloc (.cells #[.int .u32 pr, .int .u8 pn, .bool true, .int .u32 br, .int .u8 bn, .string v] 156)).drew) mb m') := Lib.hid (HM1.out.alloc _).drew
    refine wp_region_still_tail 6 (by kernel_rfl) (by kernel_rfl) ?_
    simp only [List.take_succ_cons, List.take_zero, List.drop_succ_cons, List.drop_zero]
    change wpStill _ _ ((w1.alloc (.cells #[.int .u32 pr, .int .u8 pn, .bool true, .int .u32 br, .int .u8 bn, .string v] 156)).drew) (fun a' => wpList _ _ _ _ a' ((w1.alloc (.cells #[.int .u32 pr, .int .u8 pn, .bool true, .int .u32 br, .int .u8 bn, .string v] 156)).drew)) _ _
    repeat still_step
    refine wpStill_nil ?_
    go_wp2_with (at_mapUpdate; refine wpList_mapUpdate_at rfl _ _ _ _ rfl Try.underlying127 rfl hmm.out ⟨ix, ibk, irp, iix⟩ hi ⟨⟨pr, pn⟩, ⟨true, ⟨br, bn⟩, v⟩⟩ rfl rfl ?_; intro es ec hm2; have HM2 := Lib.hid hm2; clear hm2)
    refine bodyPost_ret (v := .tuple #[.agg #[.int .u32 pr, .int .u8 pn], .bool true, .int .i64 er]) ?_ rfl ⟨?_, ?_, ?_⟩
    · simp [results, Try.results56, go_sem, c20, c21, l2]
    · rfl
    · exact ((((HK.out.alloc _).drew).setMap _ _).setCell (by (try simp only [World.size_alloc, size_ext, World.size_setCell]); omega) _).setCell (by (try simp only [World.size_alloc, size_ext, World.size_setCell]); omega) _
    · exact HM2.out.setCell.setCell
end Go.Proofs.Ytplliabmnhigbaa
