/- WALKS: an acceptor's table (acceptor.New, promise, Prepare, Accept, Get, Forget, Count) over a map of instances: they come to plain functions on lists. -/
import Derived.Test.YtplliabmnhigbaaAccLess
import Derived.DeepKeys4
set_option linter.unusedVariables false
set_option linter.unusedSimpArgs false
namespace Go.Proofs.Ytplliabmnhigbaa
open Go.RowKit Go.Tk

structure Inst where
  tx : Int
  b : Int
  r : Int
  ix : Int
deriving DecidableEq
def Inst.val (i : Inst) : Value := .agg #[.int .u64 i.tx, .int .i64 i.b, .int .i64 i.r, .int .u32 i.ix]
def Inst.wf (i : Inst) : Prop := (Lit.int .u64 i.tx).wf = true ∧ (Lit.int .i64 i.b).wf = true ∧ (Lit.int .i64 i.r).wf = true ∧ (Lit.int .u32 i.ix).wf = true
theorem laid10 : laidOutB Try.prog = true := by kernel_rfl
theorem row10 : 104 < Try.prog.types.size := of_decide_eq_true (by kernel_rfl)
theorem wide10 : (match Try.prog.underlying 104 with | some (.array _ _) | some (.struct _) => true | _ => false) = true := by kernel_rfl
theorem lits_inst (D : Nat) (i : Inst) (h : i.wf) : Try.prog.keyLits (D + 2) 104 [.int .u64 i.tx, .int .i64 i.b, .int .i64 i.r, .int .u32 i.ix] = some [.int .u64 i.tx, .int .i64 i.b, .int .i64 i.r, .int .u32 i.ix] := by
  obtain ⟨h1, h2, h3, h4⟩ := h
  have c0 : Try.prog.cellsOf 104 = 4 := by kernel_rfl
  have c1 : Try.prog.cellsOf 22 = 1 := by kernel_rfl
  have c2 : Try.prog.cellsOf 3 = 1 := by kernel_rfl
  have c3 : Try.prog.cellsOf 41 = 1 := by kernel_rfl
  simp [Program.keyLits, Try.underlying104, Try.underlying22, Try.underlying3, Try.underlying41, c0, c1, c2, c3, h1, h2, h3, h4]
theorem formed_inst (i : Inst) : (i.val).formed Try.prog 104 = true := by unfold Inst.val; kernel_rfl
set_option maxRecDepth 100000 in
def instKey : KeyTy Try.prog 104 Inst where
  kv := Inst.val
  ok := Inst.wf
  law := Maps.Keyed.of_law (deep_law_laid laid10 (m := 2) (by omega) row10 (by kernel_rfl) wide10)
  reads i h := by
    have h1 : Try.prog.keyType 104 = true := by kernel_rfl
    refine ⟨.string (keyBytes [.int .u64 i.tx, .int .i64 i.b, .int .i64 i.r, .int .u32 i.ix]), ?_⟩
    unfold keyOf
    simp only [Try.underlying104, h1, formed_inst, Bool.and_self, if_true]
    have e : Try.prog.types.size + 1 = (Try.prog.types.size - 1) + 2 := by have := row10; omega
    rw [e]
    simp only [Inst.val, Value.cells]
    rw [lits_inst _ i h]
    rfl
  inj a b _ _ h := by
    obtain ⟨a1, a2, a3, a4⟩ := a
    obtain ⟨b1, b2, b3, b4⟩ := b
    simp only [Inst.val] at h
    simp at h
    obtain ⟨rfl, rfl, rfl, rfl⟩ := h
    rfl
structure Acc where
  is : Bool
  b : Ballot
  v : ByteArray
def Acc.val (a : Acc) : Value := .agg #[.bool a.is, .int .u32 a.b.r, .int .u8 a.b.n, .string a.v]
structure Row where
  p : Ballot
  a : Acc
def Row.val (r : Row) : Value := .agg #[.int .u32 r.p.r, .int .u8 r.p.n, .bool r.a.is, .int .u32 r.a.b.r, .int .u8 r.a.b.n, .string r.a.v]
def noB : Ballot := ⟨0, 0⟩
def noA : Acc := ⟨false, noB, .empty⟩
def noRow : Row := ⟨noB, noA⟩
theorem zeroRow (w : World) : (zeroValue 156).run Try.prog w = .ok noRow.val w := by kernel_rfl
abbrev Rows10 := List (Inst × Row)
/-- a table in memory: its own block tb, its map's block mb -/
def Tab (w : World) (tb mb : Nat) (most : Int) (m : Rows10) : Prop :=
  w.cell? ⟨tb, 0, none⟩ = some (.int .i64 most) ∧ w.cell? ⟨tb, 1, none⟩ = some (.map (some mb)) ∧ tb < w.heap.size ∧ MapAt instKey Row.val w mb m
theorem hp_drew {w : World} {o : Obj} {b : Nat} (h : w.heap[b]? = some o) : w.drew.heap[b]? = some o := h
theorem Tab.ne {w : World} {tb mb : Nat} {most : Int} {m : Rows10} (h : Tab w tb mb most m) : tb ≠ mb := by
  obtain ⟨h1, _, _, es, c, hm, _⟩ := h
  rintro rfl
  simp [World.cell?, hm] at h1
theorem Tab.kept {w w' : World} {tb mb : Nat} {most : Int} {m m' : Rows10} (h : Tab w tb mb most m) (hk : Kept mb w w') (hm : MapAt instKey Row.val w' mb m') : Tab w' tb mb most m' :=
  ⟨hk.cell h.1 h.ne, hk.cell h.2.1 h.ne, Nat.lt_of_lt_of_le h.2.2.1 hk.size, hm⟩

/-- what is promised: the row as it was or is, whether it may, the error, the rows then -/
def promise10 (most : Int) (m : Rows10) (i : Inst) (b : Ballot) : Row × Bool × Int × Rows10 :=
  match mget m i with
  | none => if most ≤ m.length then (noRow, false, 101, m) else if less b noB then (noRow, false, 0, m) else (⟨b, noA⟩, true, 0, mset m i ⟨b, noA⟩)
  | some r => if less b r.p then (r, false, 0, m) else (⟨b, r.a⟩, true, 0, mset m i ⟨b, r.a⟩)

set_option maxRecDepth 100000 in
set_option maxHeartbeats 1000000 in
theorem acc_New_bad (n : Int) (w : World) (h : ¬ (1 ≤ n ∧ n ≤ 4096)) : Calls Try.prog 27 #[.int .i64 n] w (fun e w' => e = .returned (.tuple #[.pointer none, .int .i64 1]) ∧ w' = w) := by
  go_enter Try.func27, Try.ntmps27
  by_cases h1 : n < 1
  · go_wp2
    go_ret2
    exact ⟨rfl, rfl⟩
  · have h2 : 4096 < n := by omega
    go_wp2
    go_ret2
    exact ⟨rfl, rfl⟩
set_option maxRecDepth 100000 in
set_option maxHeartbeats 1000000 in
theorem acc_New (n : Int) (w : World) (h : 1 ≤ n ∧ n ≤ 4096) : Calls Try.prog 27 #[.int .i64 n] w (fun e w' => e = .returned (.tuple #[.pointer (some ⟨w.heap.size + 1, 0, none⟩), .int .i64 0]) ∧ Below w.heap.size w w' ∧ Tab w' (w.heap.size + 1) w.heap.size n []) := by
  obtain ⟨h1, h2⟩ := h
  have hmm := @run_makeMap Try.prog
  go_enter Try.func27, Try.ntmps27
  go_wp2
  go_ret2
  refine ⟨rfl, ((Below.refl _ _).alloc (Nat.le_refl _) _).alloc (by (try simp only [World.size_alloc, size_ext, World.size_setCell]); omega) _, ?_, ?_, ?_, ?_⟩
  · exact (cell_of_heap (hp_new (by simp))).trans rfl
  · exact (cell_of_heap (hp_new (by simp))).trans rfl
  · simp
  · exact MapAt.made.alloc _
set_option maxRecDepth 100000 in
set_option maxHeartbeats 2000000 in
theorem acc_promise (w : World) (tb mb : Nat) (most : Int) (m : Rows10) (i : Inst) (b : Ballot) (h : Tab w tb mb most m) (hi : i.wf) :
    Calls Try.prog 69 #[.pointer (some ⟨tb, 0, none⟩), i.val, b.val] w (fun e w' => e = .returned (.tuple #[(promise10 most m i b).1.val, .bool (promise10 most m i b).2.1, .int .i64 (promise10 most m i b).2.2.1]) ∧ Kept mb w w' ∧ MapAt instKey Row.val w' mb (promise10 most m i b).2.2.2) := by
  obtain ⟨P, hP⟩ : ∃ P, P = promise10 most m i b := ⟨_, rfl⟩
  rw [← hP]
  have H := Lib.hid h
  obtain ⟨k0, k1, hlt, hm⟩ := h
  obtain ⟨b1, b2, b3, b4, b5, b6⟩ := roomy hlt
  have hml := hm.lt
  obtain ⟨e1, e2, e3, e4, e5, e6⟩ := roomy hml
  have HM := Lib.hid hm
  clear hm
  unfold promise10 at hP
  have HP := Lib.hid hP
  clear hP
  have hl : ∀ W, MapAt instKey Row.val W mb m → (Instr.lookup 127 (.map (some mb)) i.val true).run Try.prog W = .ok (.tuple #[((mget m i).map Row.val).getD noRow.val, .bool (mget m i).isSome]) W := fun W hW => hW.lookup Try.underlying127 zeroRow hi true
  have er : ((mget m i).map Row.val).getD noRow.val = ((mget m i).getD noRow).val := by cases mget m i <;> rfl
  rw [er] at hl
  clear er
  obtain ⟨⟨⟨pr, pn⟩, ⟨ai, ⟨ar, an⟩, av⟩⟩, hr⟩ : ∃ r : Row, r = (mget m i).getD noRow := ⟨_, rfl⟩
  rw [← hr] at hl
  obtain ⟨ix, ibk, irp, iix⟩ := i
  obtain ⟨br, bn⟩ := b
  simp only [Inst.val, Ballot.val, Row.val] at hl ⊢
  have hl1 := hl ((((w.alloc (.cells #[.int .u64 ix, .int .i64 ibk, .int .i64 irp, .int .u32 iix] 104)).alloc (.cells #[.int .u32 br, .int .u8 bn] 47)).alloc (.cells #[.int .u32 0, .int .u8 0, .bool false, .int .u32 0, .int .u8 0, .string ⟨#[]⟩] 156)).drew) (((HM.out.alloc _).alloc _).alloc _)
  have hl2 := hl (((((w.alloc (.cells #[.int .u64 ix, .int .i64 ibk, .int .i64 irp, .int .u32 iix] 104)).alloc (.cells #[.int .u32 br, .int .u8 bn] 47)).alloc (.cells #[.int .u32 0, .int .u8 0, .bool false, .int .u32 0, .int .u8 0, .string ⟨#[]⟩] 156)).alloc (.cells #[.int .u32 0, .int .u8 0, .bool false, .int .u32 0, .int .u8 0, .string ⟨#[]⟩] 156)).drew) ((((HM.out.alloc _).alloc _).alloc _).alloc _)
  have HR := Lib.hid hr
  clear hl hr
  go_enter Try.func69, Try.ntmps69
  go_upto_region 3 with fail
  obtain ⟨kn, hkn⟩ : ∃ kn, kn = (mget m ⟨ix, ibk, irp, iix⟩).isSome := ⟨_, rfl⟩
  rw [← hkn] at hl1 hl2
  have HKN := Lib.hid hkn
  clear hkn
  go_cut [9, 10] (fun s9 s10 wr => s9 = .pointer (some ⟨w.heap.size + 1 + 1 + 1, 0, none⟩) ∧ s10 = .bool kn ∧ wr = (((((w.alloc (.cells #[.int .u64 ix, .int .i64 ibk, .int .i64 irp, .int .u32 iix] 104)).alloc (.cells #[.int .u32 br, .int .u8 bn] 47)).alloc (.cells #[.int .u32 0, .int .u8 0, .bool false, .int .u32 0, .int .u8 0, .string ⟨#[]⟩] 156)).alloc (.cells #[.int .u32 pr, .int .u8 pn, .bool ai, .int .u32 ar, .int .u8 an, .string av] 156)).drew))
  case first =>
    go_region
    all_goals (go_wp2_with fail; go_meet; exact ⟨rfl, rfl, rfl⟩)
  case rest =>
    clear hl1 hl2
    obtain ⟨rfl, rfl, rfl⟩ := hcut
    have hlen : ∀ x, (Builtin.len_ #[127] 3 #[.map (some mb)]).run Try.prog ((((((w.alloc (.cells #[.int .u64 ix, .int .i64 ibk, .int .i64 irp, .int .u32 iix] 104)).alloc (.cells #[.int .u32 br, .int .u8 bn] 47)).alloc (.cells #[.int .u32 0, .int .u8 0, .bool false, .int .u32 0, .int .u8 0, .string ⟨#[]⟩] 156)).alloc (.cells #[.int .u32 pr, .int .u8 pn, .bool ai, .int .u32 ar, .int .u8 an, .string av] 156)).drew).ext x) = .ok (.int .i64 m.length) ((((((w.alloc (.cells #[.int .u64 ix, .int .i64 ibk, .int .i64 irp, .int .u32 iix] 104)).alloc (.cells #[.int .u32 br, .int .u8 bn] 47)).alloc (.cells #[.int .u32 0, .int .u8 0, .bool false, .int .u32 0, .int .u8 0, .string ⟨#[]⟩] 156)).alloc (.cells #[.int .u32 pr, .int .u8 pn, .bool ai, .int .u32 ar, .int .u8 an, .string av] 156)).drew).ext x) := fun x => MapAt.len (MapAt.ext ((((HM.out.alloc _).alloc _).alloc _).alloc _).drew) Try.underlying127 _
    by_cases hfull : kn = false ∧ most ≤ m.length
    · obtain ⟨rfl, hfull⟩ := hfull
      go_upto_region 4 with fail
      refine wp_region_ext (by kernel_rfl) (by kernel_rfl) ?_
      repeat (go_big_quiet_step ((first | (fail))))
      refine wpQuiet_nil ?_
      intro _ hq
      obtain ⟨yq, hq⟩ := hq
      subst hq
      go_wp2
      have hn : mget m ⟨ix, ibk, irp, iix⟩ = none := by have := HKN.out; revert this; cases mget m ⟨ix, ibk, irp, iix⟩ <;> simp
      obtain rfl : P = (noRow, false, 101, m) := by rw [HP.out, hn]; simp [hfull]
      refine bodyPost_ret (v := .tuple #[noRow.val, .bool false, .int .i64 101]) (by simp [results, Try.results69, go_sem, noRow, noA, noB, Row.val]; try rfl) rfl ⟨rfl, ((((((Kept.refl.alloc _).alloc _).alloc _).alloc _).drew).ext _), MapAt.ext ((((HM.out.alloc _).alloc _).alloc _).alloc _).drew⟩
    · go_upto_region 4 with fail
      go_cut [23] (fun s23 wr => s23 = .bool false ∧ ∃ y, wr = (((((w.alloc (.cells #[.int .u64 ix, .int .i64 ibk, .int .i64 irp, .int .u32 iix] 104)).alloc (.cells #[.int .u32 br, .int .u8 bn] 47)).alloc (.cells #[.int .u32 0, .int .u8 0, .bool false, .int .u32 0, .int .u8 0, .string ⟨#[]⟩] 156)).alloc (.cells #[.int .u32 pr, .int .u8 pn, .bool ai, .int .u32 ar, .int .u8 an, .string av] 156)).drew).ext y)
      case first =>
        cases kn
        · have hf : ¬ most ≤ m.length := fun h => hfull ⟨rfl, h⟩
          refine wp_region_ext (by kernel_rfl) (by kernel_rfl) ?_
          repeat (go_big_quiet_step ((first | (fail))))
          refine wpQuiet_nil ?_
          intro _ hq
          obtain ⟨yq, hq⟩ := hq
          subst hq
          go_wp2_with fail
          go_meet
          exact ⟨rfl, _, rfl⟩
        · refine wp_region_ext (by kernel_rfl) (by kernel_rfl) ?_
          repeat (go_big_quiet_step ((first | (fail))))
          refine wpQuiet_nil ?_
          intro _ hq
          obtain ⟨yq, hq⟩ := hq
          subst hq
          go_wp2_with fail
          go_meet
          exact ⟨rfl, _, rfl⟩
      case rest =>
        obtain ⟨rfl, y, rfl⟩ := hcut
        have hp : P = if less ⟨br, bn⟩ ⟨pr, pn⟩ then (⟨⟨pr, pn⟩, ⟨ai, ⟨ar, an⟩, av⟩⟩, false, 0, m) else (⟨⟨br, bn⟩, ⟨ai, ⟨ar, an⟩, av⟩⟩, true, 0, mset m ⟨ix, ibk, irp, iix⟩ ⟨⟨br, bn⟩, ⟨ai, ⟨ar, an⟩, av⟩⟩) := by
          rw [HP.out]
          have h1 := HKN.out
          have h2 := HR.out
          revert h1 h2 hfull
          cases mget m ⟨ix, ibk, irp, iix⟩ with
          | none =>
            intro h0 h1 h2
            simp at h1
            subst h1
            simp only [Option.getD_none, noRow, noA, noB, Row.mk.injEq, Ballot.mk.injEq, Acc.mk.injEq] at h2
            obtain ⟨⟨rfl, rfl⟩, rfl, ⟨rfl, rfl⟩, rfl⟩ := h2
            have hf : ¬ most ≤ m.length := fun h => h0 ⟨rfl, h⟩
            simp [hf, noRow, noA, noB]
            try rfl
          | some r =>
            intro _ _ h2
            simp only [Option.getD_some] at h2
            subst h2
            rfl
        have HPP := Lib.hid hp
        clear hp hfull hlen
        generalize hls : less ⟨br, bn⟩ ⟨pr, pn⟩ = ls at *
        have HLS := Lib.hid hls
        clear hls
        go_wp2_with fail
        refine ((acc_Less ⟨br, bn⟩ ⟨pr, pn⟩ _)).mono ?_
        rw [HLS.out]
        rintro e w1 ⟨rfl, y2, rfl⟩
        cases ls
        · go_upto_region 9 with fail
          refine wp_region_still_tail 6 (by kernel_rfl) (by kernel_rfl) ?_
          simp only [List.take_succ_cons, List.take_zero, List.drop_succ_cons, List.drop_zero]
          change wpStill _ _ (((((((((w.alloc (.cells #[.int .u64 ix, .int .i64 ibk, .int .i64 irp, .int .u32 iix] 104)).alloc (.cells #[.int .u32 br, .int .u8 bn] 47)).alloc (.cells #[.int .u32 0, .int .u8 0, .bool false, .int .u32 0, .int .u8 0, .string ⟨#[]⟩] 156)).alloc (.cells #[.int .u32 br, .int .u8 bn, .bool ai, .int .u32 ar, .int .u8 an, .string av] 156)).drew).ext y).ext ⟨y2.objs, y2.n + 1⟩))) (fun a' => wpList _ _ _ _ a' (((((((((w.alloc (.cells #[.int .u64 ix, .int .i64 ibk, .int .i64 irp, .int .u32 iix] 104)).alloc (.cells #[.int .u32 br, .int .u8 bn] 47)).alloc (.cells #[.int .u32 0, .int .u8 0, .bool false, .int .u32 0, .int .u8 0, .string ⟨#[]⟩] 156)).alloc (.cells #[.int .u32 br, .int .u8 bn, .bool ai, .int .u32 ar, .int .u8 an, .string av] 156)).drew).ext y).ext ⟨y2.objs, y2.n + 1⟩)))) _ _
          have c1 : (((((((((w.alloc (.cells #[.int .u64 ix, .int .i64 ibk, .int .i64 irp, .int .u32 iix] 104)).alloc (.cells #[.int .u32 br, .int .u8 bn] 47)).alloc (.cells #[.int .u32 0, .int .u8 0, .bool false, .int .u32 0, .int .u8 0, .string ⟨#[]⟩] 156)).alloc (.cells #[.int .u32 br, .int .u8 bn, .bool ai, .int .u32 ar, .int .u8 an, .string av] 156)).drew).ext y).ext ⟨y2.objs, y2.n + 1⟩))).cell? ⟨tb, 1, none⟩ = some (.map (some mb)) := (((((((Kept.refl.alloc _).alloc _).alloc _).alloc _).drew).ext _).ext _).cell k1 H.out.ne
          have hi0 : (((((((((w.alloc (.cells #[.int .u64 ix, .int .i64 ibk, .int .i64 irp, .int .u32 iix] 104)).alloc (.cells #[.int .u32 br, .int .u8 bn] 47)).alloc (.cells #[.int .u32 0, .int .u8 0, .bool false, .int .u32 0, .int .u8 0, .string ⟨#[]⟩] 156)).alloc (.cells #[.int .u32 br, .int .u8 bn, .bool ai, .int .u32 ar, .int .u8 an, .string av] 156)).drew).ext y).ext ⟨y2.objs, y2.n + 1⟩))).heap[w.heap.size]? = some (.cells #[.int .u64 ix, .int .i64 ibk, .int .i64 irp, .int .u32 iix] 104) := hp_ext (hp_ext (hp_drew (hp_alloc _ (hp_alloc _ (hp_alloc _ (hp_new rfl))))))
          have hr0 : (((((((((w.alloc (.cells #[.int .u64 ix, .int .i64 ibk, .int .i64 irp, .int .u32 iix] 104)).alloc (.cells #[.int .u32 br, .int .u8 bn] 47)).alloc (.cells #[.int .u32 0, .int .u8 0, .bool false, .int .u32 0, .int .u8 0, .string ⟨#[]⟩] 156)).alloc (.cells #[.int .u32 br, .int .u8 bn, .bool ai, .int .u32 ar, .int .u8 an, .string av] 156)).drew).ext y).ext ⟨y2.objs, y2.n + 1⟩))).heap[w.heap.size + 1 + 1 + 1]? = some (.cells #[.int .u32 br, .int .u8 bn, .bool ai, .int .u32 ar, .int .u8 an, .string av] 156) := hp_ext (hp_ext (hp_drew (hp_new (by simp))))
          have ci := fun j => cell_of_heap (i := j) hi0
          have cr := fun j => cell_of_heap (i := j) hr0
          have ci0 := (ci 0).trans rfl
          have ci1 := (ci 1).trans rfl
          have ci2 := (ci 2).trans rfl
          have ci3 := (ci 3).trans rfl
          have cr0 := (cr 0).trans rfl
          have cr1 := (cr 1).trans rfl
          have cr2 := (cr 2).trans rfl
          have cr3 := (cr 3).trans rfl
          have cr4 := (cr 4).trans rfl
          have cr5 := (cr 5).trans rfl
          simp only [List.getElem?_toArray, List.getElem?_cons_zero, List.getElem?_cons_succ] at ci0 ci1 ci2 ci3 cr0 cr1 cr2 cr3 cr4 cr5
          clear ci cr hi0 hr0
          repeat still_step
          refine wpStill_nil ?_
          have hmm : MapAt instKey Row.val (((((((((w.alloc (.cells #[.int .u64 ix, .int .i64 ibk, .int .i64 irp, .int .u32 iix] 104)).alloc (.cells #[.int .u32 br, .int .u8 bn] 47)).alloc (.cells #[.int .u32 0, .int .u8 0, .bool false, .int .u32 0, .int .u8 0, .string ⟨#[]⟩] 156)).alloc (.cells #[.int .u32 br, .int .u8 bn, .bool ai, .int .u32 ar, .int .u8 an, .string av] 156)).drew).ext y).ext ⟨y2.objs, y2.n + 1⟩))) mb m := (MapAt.ext (MapAt.ext ((((HM.out.alloc _).alloc _).alloc _).alloc _).drew))
          have HMM := Lib.hid hmm
          clear hmm
          go_wp2_with (at_mapUpdate; refine wpList_mapUpdate_at rfl _ _ _ _ rfl Try.underlying127 rfl HMM.out ⟨ix, ibk, irp, iix⟩ hi ⟨⟨br, bn⟩, ⟨ai, ⟨ar, an⟩, av⟩⟩ rfl rfl ?_; intro es ec hm1; have HM1 := Lib.hid hm1; clear hm1)
          obtain rfl : P = (⟨⟨br, bn⟩, ⟨ai, ⟨ar, an⟩, av⟩⟩, true, 0, mset m ⟨ix, ibk, irp, iix⟩ ⟨⟨br, bn⟩, ⟨ai, ⟨ar, an⟩, av⟩⟩) := by rw [HPP.out]; simp
          have ho0 : (((((((((w.alloc (.cells #[.int .u64 ix, .int .i64 ibk, .int .i64 irp, .int .u32 iix] 104)).alloc (.cells #[.int .u32 br, .int .u8 bn] 47)).alloc (.cells #[.int .u32 0, .int .u8 0, .bool false, .int .u32 0, .int .u8 0, .string ⟨#[]⟩] 156)).alloc (.cells #[.int .u32 br, .int .u8 bn, .bool ai, .int .u32 ar, .int .u8 an, .string av] 156)).drew).ext y).ext ⟨y2.objs, y2.n + 1⟩))).heap[w.heap.size + 1 + 1]? = some (.cells #[.int .u32 0, .int .u8 0, .bool false, .int .u32 0, .int .u8 0, .string ⟨#[]⟩] 156) := hp_ext (hp_ext (hp_drew (hp_alloc _ (hp_new (by simp)))))
          have co := fun j => cell_of_heap (i := j) ho0
          have co0 := (co 0).trans rfl
          have co1 := (co 1).trans rfl
          have co2 := (co 2).trans rfl
          have co3 := (co 3).trans rfl
          have co4 := (co 4).trans rfl
          have co5 := (co 5).trans rfl
          simp only [List.getElem?_toArray, List.getElem?_cons_zero, List.getElem?_cons_succ] at co0 co1 co2 co3 co4 co5
          have K5 : Kept mb w (((((((((w.alloc (.cells #[.int .u64 ix, .int .i64 ibk, .int .i64 irp, .int .u32 iix] 104)).alloc (.cells #[.int .u32 br, .int .u8 bn] 47)).alloc (.cells #[.int .u32 0, .int .u8 0, .bool false, .int .u32 0, .int .u8 0, .string ⟨#[]⟩] 156)).alloc (.cells #[.int .u32 br, .int .u8 bn, .bool ai, .int .u32 ar, .int .u8 an, .string av] 156)).drew).ext y).ext ⟨y2.objs, y2.n + 1⟩))) := ((((((Kept.refl.alloc _).alloc _).alloc _).alloc _).drew).ext _).ext _
          refine bodyPost_ret (v := .tuple #[Row.val ⟨⟨br, bn⟩, ⟨ai, ⟨ar, an⟩, av⟩⟩, .bool true, .int .i64 0]) (by simp [results, Try.results69, go_sem, Row.val, co0, co1, co2, co3, co4, co5]) rfl ⟨rfl, ((((((K5.setMap _ _).setCell (by (try simp only [World.size_alloc, size_ext, World.size_setCell]); omega) _).setCell (by (try simp only [World.size_alloc, size_ext, World.size_setCell]); omega) _).setCell (by (try simp only [World.size_alloc, size_ext, World.size_setCell]); omega) _).setCell (by (try simp only [World.size_alloc, size_ext, World.size_setCell]); omega) _).setCell (by (try simp only [World.size_alloc, size_ext, World.size_setCell]); omega) _).setCell (by (try simp only [World.size_alloc, size_ext, World.size_setCell]); omega) _, HM1.out.setCell.setCell.setCell.setCell.setCell.setCell⟩
        · go_wp2
          obtain rfl : P = (⟨⟨pr, pn⟩, ⟨ai, ⟨ar, an⟩, av⟩⟩, false, 0, m) := by rw [HPP.out]; simp
          refine bodyPost_ret (v := .tuple #[Row.val ⟨⟨pr, pn⟩, ⟨ai, ⟨ar, an⟩, av⟩⟩, .bool false, .int .i64 0]) (by simp [results, Try.results69, go_sem, Row.val]) rfl ⟨rfl, (((((((Kept.refl.alloc _).alloc _).alloc _).alloc _).drew).ext _).ext _), MapAt.ext (MapAt.ext ((((HM.out.alloc _).alloc _).alloc _).alloc _).drew)⟩
end Go.Proofs.Ytplliabmnhigbaa
