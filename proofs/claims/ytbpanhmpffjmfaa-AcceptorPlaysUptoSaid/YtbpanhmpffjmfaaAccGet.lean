/- WALKS: what is asked of an acceptor's table (Get, Forget, Count): they come to plain functions on lists. -/
import Derived.Test.YtbpanhmpffjmfaaAccTab
set_option linter.unusedVariables false
set_option linter.unusedSimpArgs false
namespace Go.Proofs.Ytbpanhmpffjmfaa
open Go.RowKit Go.Tk

def get10 (m : Rows10) (i : Inst) : Ballot × Acc × Int :=
  match mget m i with | none => (noB, noA, 102) | some r => (r.p, r.a, 0)

set_option maxRecDepth 100000 in
set_option maxHeartbeats 2000000 in
theorem acc_Count (w : World) (tb mb : Nat) (most : Int) (m : Rows10) (h : Tab w tb mb most m) :
    Calls Try.prog 16 #[.pointer (some ⟨tb, 0, none⟩)] w (fun e w' => e = .returned (.int .i64 m.length) ∧ w' = w) := by
  obtain ⟨k0, k1, hlt, hm⟩ := h
  go_enter Try.func16, Try.ntmps16
  go_wp2_with (at_len; refine wpList_len_at rfl _ _ rfl Try.underlying56 rfl hm ?_)
  go_ret
  exact ⟨rfl, rfl⟩
set_option maxRecDepth 100000 in
set_option maxHeartbeats 2000000 in
theorem acc_Get (w : World) (tb mb : Nat) (most : Int) (m : Rows10) (i : Inst) (h : Tab w tb mb most m) (hi : i.wf) :
    Calls Try.prog 13 #[.pointer (some ⟨tb, 0, none⟩), i.val] w (fun e w' => e = .returned (.tuple #[(get10 m i).1.val, (get10 m i).2.1.val, .int .i64 (get10 m i).2.2]) ∧ ∃ y, w' = w.ext y) := by
  obtain ⟨P, hP⟩ : ∃ P, P = get10 m i := ⟨_, rfl⟩
  rw [← hP]
  have H := Lib.hid h
  obtain ⟨k0, k1, hlt, hm⟩ := h
  obtain ⟨b1, b2, b3, b4, b5, b6⟩ := roomy hlt
  have HM := Lib.hid hm
  clear hm
  unfold get10 at hP
  have HP := Lib.hid hP
  clear hP
  have hl : ∀ W, MapAt instKey Row.val W mb m → (Instr.lookup 56 (.map (some mb)) i.val true).run Try.prog W = .ok (.tuple #[((mget m i).map Row.val).getD noRow.val, .bool (mget m i).isSome]) W := fun W hW => hW.lookup Try.underlying56 zeroRow hi true
  have er : ((mget m i).map Row.val).getD noRow.val = ((mget m i).getD noRow).val := by cases mget m i <;> rfl
  rw [er] at hl
  clear er
  obtain ⟨⟨⟨pr, pn⟩, ⟨ai, ⟨ar, an⟩, av⟩⟩, hr⟩ : ∃ r : Row, r = (mget m i).getD noRow := ⟨_, rfl⟩
  rw [← hr] at hl
  obtain ⟨ix, ibk, irp, iix⟩ := i
  simp only [Inst.val, Ballot.val, Acc.val, Row.val] at hl ⊢
  obtain ⟨kn, hkn⟩ : ∃ kn, kn = (mget m ⟨ix, ibk, irp, iix⟩).isSome := ⟨_, rfl⟩
  rw [← hkn] at hl
  have hl1 := hl ((((w.alloc (.cells #[.int .u64 ix, .int .i64 ibk, .int .i64 irp, .int .u32 iix] 31)).alloc (.cells #[.int .u32 0, .int .u8 0] 33)).alloc (.cells #[.bool false, .int .u32 0, .int .u8 0, .string ⟨#[]⟩] 35)).drew) (((HM.out.alloc _).alloc _).alloc _)
  have hl2 := hl (((((w.alloc (.cells #[.int .u64 ix, .int .i64 ibk, .int .i64 irp, .int .u32 iix] 31)).alloc (.cells #[.int .u32 0, .int .u8 0] 33)).alloc (.cells #[.bool false, .int .u32 0, .int .u8 0, .string ⟨#[]⟩] 35)).alloc (.cells #[.int .u32 0, .int .u8 0, .bool false, .int .u32 0, .int .u8 0, .string ⟨#[]⟩] 63)).drew) ((((HM.out.alloc _).alloc _).alloc _).alloc _)
  have HR := Lib.hid hr
  have HKN := Lib.hid hkn
  clear hl hr hkn
  go_enter Try.func13, Try.ntmps13
  go_upto_region 3 with fail
  go_cut [7, 8] (fun s7 s8 wr => s7 = .pointer (some ⟨w.heap.size + 1 + 1 + 1, 0, none⟩) ∧ s8 = .bool kn ∧ wr = ((((w.alloc (.cells #[.int .u64 ix, .int .i64 ibk, .int .i64 irp, .int .u32 iix] 31)).alloc (.cells #[.int .u32 0, .int .u8 0] 33)).alloc (.cells #[.bool false, .int .u32 0, .int .u8 0, .string ⟨#[]⟩] 35)).alloc (.cells #[.int .u32 pr, .int .u8 pn, .bool ai, .int .u32 ar, .int .u8 an, .string av] 63)).drew)
  case first =>
    go_region
    all_goals (go_wp2_with fail; go_meet; exact ⟨rfl, rfl, rfl⟩)
  case rest =>
    clear hl1 hl2
    obtain ⟨rfl, rfl, rfl⟩ := hcut
    have fin : ∀ o1 o2 o3 o4 n, ∃ y, (((((w.alloc o1).alloc o2).alloc o3).alloc o4).drewN n) = w.ext y := fun o1 o2 o3 o4 n => of_below ((((((Below.refl _ _).alloc (Nat.le_refl _) o1).alloc (by (try simp only [World.size_alloc, size_ext, World.size_setCell]); omega) o2).alloc (by (try simp only [World.size_alloc, size_ext, World.size_setCell]); omega) o3).alloc (by (try simp only [World.size_alloc, size_ext, World.size_setCell]); omega) o4).trans ⟨rfl, rfl, rfl, Nat.le_refl _, fun _ _ => rfl⟩)
    cases kn
    · have hn : mget m ⟨ix, ibk, irp, iix⟩ = none := by have := HKN.out; revert this; cases mget m ⟨ix, ibk, irp, iix⟩ <;> simp
      obtain rfl : P = (noB, noA, 102) := by rw [HP.out, hn]
      go_wp2
      refine bodyPost_ret (v := .tuple #[.agg #[.int .u32 0, .int .u8 0], .agg #[.bool false, .int .u32 0, .int .u8 0, .string ⟨#[]⟩], .int .i64 102]) ?_ rfl ⟨?_, ?_⟩
      · simp [results, Try.results13, go_sem]
      · rfl
      · exact fin _ _ _ _ 1
    · obtain ⟨r, hs⟩ : ∃ r, mget m ⟨ix, ibk, irp, iix⟩ = some r := by have := HKN.out; revert this; cases mget m ⟨ix, ibk, irp, iix⟩ <;> simp
      have hr := HR.out
      rw [hs] at hr
      simp only [Option.getD_some] at hr
      subst hr
      obtain rfl : P = (⟨pr, pn⟩, ⟨ai, ⟨ar, an⟩, av⟩, 0) := by rw [HP.out, hs]
      go_upto_region 6 with fail
      go_region
      all_goals
        go_wp2
        refine bodyPost_ret (v := .tuple #[.agg #[.int .u32 pr, .int .u8 pn], .agg #[.bool ai, .int .u32 ar, .int .u8 an, .string av], .int .i64 0]) ?_ rfl ⟨?_, ?_⟩
        · simp [results, Try.results13, go_sem]
        · rfl
        · first | exact fin _ _ _ _ 2 | (trace_state; sorry)
theorem get10_ok (m : Rows10) (i : Inst) : ((get10 m i).2.2 = 0 ∧ ∃ r, mget m i = some r ∧ get10 m i = (r.p, r.a, 0)) ∨ (mget m i = none ∧ get10 m i = (noB, noA, 102)) := by
  unfold get10
  cases mget m i with
  | none => exact .inr ⟨rfl, rfl⟩
  | some r => exact .inl ⟨rfl, r, rfl, rfl⟩
def forget10 (m : Rows10) (i : Inst) : Int × Rows10 := match mget m i with | none => (102, m) | some _ => (0, mdel m i)
set_option maxRecDepth 100000 in
set_option maxHeartbeats 2000000 in
theorem acc_Forget (w : World) (tb mb : Nat) (most : Int) (m : Rows10) (i : Inst) (h : Tab w tb mb most m) (hi : i.wf) :
    Calls Try.prog 14 #[.pointer (some ⟨tb, 0, none⟩), i.val] w (fun e w' => e = .returned (.int .i64 (forget10 m i).1) ∧ Kept mb w w' ∧ MapAt instKey Row.val w' mb (forget10 m i).2) := by
  obtain ⟨P, hP⟩ : ∃ P, P = forget10 m i := ⟨_, rfl⟩
  rw [← hP]
  unfold forget10 at hP
  have H := Lib.hid h
  have C := Lib.hid (fun W (hW : Tab W tb mb most m) => acc_Get W tb mb most m i hW hi)
  obtain ⟨k0, k1, hlt, hm⟩ := h
  obtain ⟨b1, b2, b3, b4, b5, b6⟩ := roomy hlt
  have HM := Lib.hid hm
  have G := Lib.hid (get10_ok m i)
  clear hm
  generalize get10 m i = gg at *
  obtain ⟨⟨pr, pn⟩, ⟨ai, ⟨ar, an⟩, av⟩, er⟩ := gg
  have HP := Lib.hid hP
  clear hP
  obtain ⟨ix, ibk, irp, iix⟩ := i
  simp only [Inst.val, Ballot.val, Acc.val] at C ⊢
  have K1 : Kept mb w (w.alloc (.cells #[.int .u64 ix, .int .i64 ibk, .int .i64 irp, .int .u32 iix] 31)) := Kept.refl.alloc _
  have T1 := Lib.hid (H.out.kept K1 (HM.out.alloc _))
  clear K1
  go_enter Try.func14, Try.ntmps14
  go_wp2_with fail
  refine (C.out _ T1.out).mono ?_
  rintro e w1 ⟨rfl, y, rfl⟩
  rcases G.out with ⟨h0, r, hs, hg⟩ | ⟨hs, hg⟩
  · have h0' : er = 0 := h0
    subst h0'
    clear h0
    obtain rfl : P = (0, mdel m ⟨ix, ibk, irp, iix⟩) := by rw [HP.out, hs]
    clear hg
    have hmm : Hid (MapAt instKey Row.val ((((w.alloc (.cells #[.int .u64 ix, .int .i64 ibk, .int .i64 irp, .int .u32 iix] 31)).ext y).alloc (.cells #[.int .u32 pr, .int .u8 pn] 33)).alloc (.cells #[.bool ai, .int .u32 ar, .int .u8 an, .string av] 35)).drew mb m) := Lib.hid (((MapAt.ext (HM.out.alloc _)).alloc _).alloc _).drew
    have c1 : (((((w.alloc (.cells #[.int .u64 ix, .int .i64 ibk, .int .i64 irp, .int .u32 iix] 31)).ext y).alloc (.cells #[.int .u32 pr, .int .u8 pn] 33)).alloc (.cells #[.bool ai, .int .u32 ar, .int .u8 an, .string av] 35)).drew).cell? ⟨tb, 1, none⟩ = some (.map (some mb)) := (((((Kept.refl.alloc _).ext _).alloc _).alloc _).drew).cell k1 H.out.ne
    have hi0 : (((((w.alloc (.cells #[.int .u64 ix, .int .i64 ibk, .int .i64 irp, .int .u32 iix] 31)).ext y).alloc (.cells #[.int .u32 pr, .int .u8 pn] 33)).alloc (.cells #[.bool ai, .int .u32 ar, .int .u8 an, .string av] 35)).drew).heap[w.heap.size]? = some (.cells #[.int .u64 ix, .int .i64 ibk, .int .i64 irp, .int .u32 iix] 31) := hp_drew (hp_alloc _ (hp_alloc _ (hp_ext (hp_new rfl))))
    have ci := fun j => cell_of_heap (i := j) hi0
    have ci0 := (ci 0).trans rfl
    have ci1 := (ci 1).trans rfl
    have ci2 := (ci 2).trans rfl
    have ci3 := (ci 3).trans rfl
    simp only [List.getElem?_toArray, List.getElem?_cons_zero, List.getElem?_cons_succ] at ci0 ci1 ci2 ci3
    clear ci hi0
    go_upto_region 4 with fail
    refine wp_region_still_tail 5 (by kernel_rfl) (by kernel_rfl) ?_
    simp only [List.take_succ_cons, List.take_zero, List.drop_succ_cons, List.drop_zero]
    change wpStill _ _ (((((w.alloc (.cells #[.int .u64 ix, .int .i64 ibk, .int .i64 irp, .int .u32 iix] 31)).ext y).alloc (.cells #[.int .u32 pr, .int .u8 pn] 33)).alloc (.cells #[.bool ai, .int .u32 ar, .int .u8 an, .string av] 35)).drew) (fun a' => wpList _ _ _ _ a' (((((w.alloc (.cells #[.int .u64 ix, .int .i64 ibk, .int .i64 irp, .int .u32 iix] 31)).ext y).alloc (.cells #[.int .u32 pr, .int .u8 pn] 33)).alloc (.cells #[.bool ai, .int .u32 ar, .int .u8 an, .string av] 35)).drew)) _ _
    repeat still_step
    refine wpStill_nil ?_
    go_wp2_with (at_delete; refine wpList_delete_at rfl _ _ _ _ rfl Try.underlying56 rfl hmm.out ⟨ix, ibk, irp, iix⟩ hi rfl ?_; intro es ec hm1; have HM1 := Lib.hid hm1; clear hm1)
    go_ret
    exact ⟨rfl, ((((Kept.refl.alloc _).ext _).alloc _).alloc _).drew.setMap _ _, HM1.out⟩
  · obtain rfl : er = 102 := congrArg (fun x : Ballot × Acc × Int => x.2.2) hg
    clear hg
    obtain rfl : P = (102, m) := by rw [HP.out, hs]
    go_wp2
    go_ret
    exact ⟨rfl, (((Kept.refl.alloc _).ext _).alloc _).alloc _, ((MapAt.ext (HM.out.alloc _)).alloc _).alloc _⟩
end Go.Proofs.Ytbpanhmpffjmfaa
