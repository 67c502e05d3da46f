/- PROVED: what no table answers (AcceptorNil): for arguments of bulk at most 1048576, the law returns true, and each argument reads behind the call as it read before. -/
import Derived.Test.YtbpanhmpffjmfaaRead10
import Derived.Test.YtbpanhmpffjmfaaAccLive
set_option linter.unusedVariables false
set_option linter.unusedSimpArgs false
namespace Go.Proofs.Ytbpanhmpffjmfaa
open Go.RowKit Go.WideShapes Go.ChangeShapes Go.ChangeAt Go.Tk

set_option maxRecDepth 100000 in
theorem nil_promise (a b c d r n : Int) (w : World) : Calls Try.prog 21 #[.pointer none, .agg #[.int .u64 a, .int .i64 b, .int .i64 c, .int .u32 d], .agg #[.int .u32 r, .int .u8 n]] w (Gives w (.tuple #[.agg #[.int .u32 0, .int .u8 0, .bool false, .int .u32 0, .int .u8 0, .string ⟨#[]⟩], .bool false, .int .i64 1])) := by
  go_enter Try.func21, Try.ntmps21
  go_wp2
  refine bodyPost_ret (v := .tuple #[.agg #[.int .u32 0, .int .u8 0, .bool false, .int .u32 0, .int .u8 0, .string ⟨#[]⟩], .bool false, .int .i64 1]) ?_ rfl (.mk rfl ?_)
  · simp [results, Try.results21, go_sem]
  · exact (((Below.refl _ _).alloc (Nat.le_refl _) _).alloc (by (try simp only [World.size_alloc, size_ext, World.size_setCell]); omega) _).alloc (by (try simp only [World.size_alloc, size_ext, World.size_setCell]); omega) _
set_option maxRecDepth 100000 in
theorem nil_Prepare (a b c d r n : Int) (w : World) : Calls Try.prog 11 #[.pointer none, .agg #[.int .u64 a, .int .i64 b, .int .i64 c, .int .u32 d], .agg #[.int .u32 r, .int .u8 n]] w (Gives w (.tuple #[.agg #[.bool false, .int .u32 0, .int .u8 0, .string ⟨#[]⟩], .agg #[.int .u32 0, .int .u8 0], .bool false, .int .i64 1])) := by
  obtain ⟨q1, q2, q3, q4, q5, q6⟩ := roomy (b := w.heap.size) (s := w.heap.size + 1) (by omega)
  go_enter Try.func11, Try.ntmps11
  go_wp2_with (go_at_call 21; refine (nil_promise _ _ _ _ _ _ _).mono ?_; rintro e w1 ⟨rfl, y, rfl⟩)
  go_region
  all_goals
    go_wp2
    refine bodyPost_ret (v := .tuple #[.agg #[.bool false, .int .u32 0, .int .u8 0, .string ⟨#[]⟩], .agg #[.int .u32 0, .int .u8 0], .bool false, .int .i64 1]) ?_ rfl (.mk rfl ?_)
    · simp [results, Try.results11, go_sem]
    · exact (((((((Below.refl _ _).alloc (Nat.le_refl _) _).alloc (by (try simp only [World.size_alloc, size_ext, World.size_setCell]); omega) _).alloc (by (try simp only [World.size_alloc, size_ext, World.size_setCell]); omega) _).alloc (by (try simp only [World.size_alloc, size_ext, World.size_setCell]); omega) _).trans (below_ext.mono (by (try simp only [World.size_alloc, size_ext, World.size_setCell]); omega))).alloc (by (try simp only [World.size_alloc, size_ext, World.size_setCell]); omega) _).drew
set_option maxRecDepth 100000 in
theorem nil_Accept (a b c d r n : Int) (v : ByteArray) (w : World) : Calls Try.prog 12 #[.pointer none, .agg #[.int .u64 a, .int .i64 b, .int .i64 c, .int .u32 d], .agg #[.int .u32 r, .int .u8 n], .string v] w (Gives w (.tuple #[.agg #[.int .u32 0, .int .u8 0], .bool false, .int .i64 1])) := by
  obtain ⟨q1, q2, q3, q4, q5, q6⟩ := roomy (b := w.heap.size) (s := w.heap.size + 1) (by omega)
  go_enter Try.func12, Try.ntmps12
  go_wp2_with (go_at_call 21; refine (nil_promise _ _ _ _ _ _ _).mono ?_; rintro e w1 ⟨rfl, y, rfl⟩)
  refine bodyPost_ret (v := .tuple #[.agg #[.int .u32 0, .int .u8 0], .bool false, .int .i64 1]) ?_ rfl (.mk rfl ?_)
  · simp [results, Try.results12, go_sem]
  · exact ((((((Below.refl _ _).alloc (Nat.le_refl _) _).alloc (by (try simp only [World.size_alloc, size_ext, World.size_setCell]); omega) _).alloc (by (try simp only [World.size_alloc, size_ext, World.size_setCell]); omega) _).trans (below_ext.mono (by (try simp only [World.size_alloc, size_ext, World.size_setCell]); omega))).alloc (by (try simp only [World.size_alloc, size_ext, World.size_setCell]); omega) _)
set_option maxRecDepth 100000 in
theorem nil_Get (a b c d : Int) (w : World) : Calls Try.prog 13 #[.pointer none, .agg #[.int .u64 a, .int .i64 b, .int .i64 c, .int .u32 d]] w (Gives w (.tuple #[.agg #[.int .u32 0, .int .u8 0], .agg #[.bool false, .int .u32 0, .int .u8 0, .string ⟨#[]⟩], .int .i64 1])) := by
  go_enter Try.func13, Try.ntmps13
  go_wp2
  refine bodyPost_ret (v := .tuple #[.agg #[.int .u32 0, .int .u8 0], .agg #[.bool false, .int .u32 0, .int .u8 0, .string ⟨#[]⟩], .int .i64 1]) ?_ rfl (.mk rfl ?_)
  · simp [results, Try.results13, go_sem]
  · exact (((Below.refl _ _).alloc (Nat.le_refl _) _).alloc (by (try simp only [World.size_alloc, size_ext, World.size_setCell]); omega) _).alloc (by (try simp only [World.size_alloc, size_ext, World.size_setCell]); omega) _
set_option maxRecDepth 100000 in
theorem nil_Forget (a b c d : Int) (w : World) : Calls Try.prog 14 #[.pointer none, .agg #[.int .u64 a, .int .i64 b, .int .i64 c, .int .u32 d]] w (Gives w (.int .i64 1)) := by
  go_enter Try.func14, Try.ntmps14
  go_wp2_with (go_at_call 13; refine (nil_Get _ _ _ _ _).mono ?_; rintro e w1 ⟨rfl, y, rfl⟩)
  go_ret
  exact .mk rfl ((((((Below.refl _ _).alloc (Nat.le_refl _) _).trans (below_ext.mono (by (try simp only [World.size_alloc, size_ext, World.size_setCell]); omega))).alloc (by (try simp only [World.size_alloc, size_ext, World.size_setCell]); omega) _).alloc (by (try simp only [World.size_alloc, size_ext, World.size_setCell]); omega) _))
set_option maxRecDepth 100000 in
theorem nil_Count (w : World) : Calls Try.prog 16 #[.pointer none] w (Gives w (.int .i64 0)) := by
  go_enter Try.func16, Try.ntmps16
  go_wp2
  go_ret
  exact .mk rfl (Below.refl _ _)
set_option maxRecDepth 100000 in
set_option maxHeartbeats 2000000 in
theorem walkNil (i : Inst) (b : Ballot) (w : World) : Calls Try.prog 6 #[i.val, b.val] w (fun e w' => e = .returned (.bool true) ∧ Below w.heap.size w w') := by
  obtain ⟨ix, ibk, irp, iix⟩ := i
  obtain ⟨br, bn⟩ := b
  simp only [Inst.val, Ballot.val]
  obtain ⟨q1, q2, q3, q4, q5, q6⟩ := roomy (b := w.heap.size) (s := w.heap.size + 1) (by omega)
  go_enter Try.func6, Try.ntmps6
  go_wp2_with fail
  refine (nil_Prepare _ _ _ _ _ _ _).mono ?_
  rintro e w1 ⟨rfl, hy1⟩
  have F1 : ∀ k o, ((w.alloc (.cells #[.int .u64 ix, .int .i64 ibk, .int .i64 irp, .int .u32 iix] 31)).alloc (.cells #[.int .u32 br, .int .u8 bn] 33)).heap[k]? = some o → w1.heap[k]? = some o := fun k o hk => by obtain ⟨y, rfl⟩ := hy1; exact hp_ext hk
  have B1 : Below w.heap.size w w1 := by obtain ⟨y, rfl⟩ := hy1; exact (((Below.refl _ _).alloc (Nat.le_refl _) _).alloc (by (try simp only [World.size_alloc, size_ext, World.size_setCell]); omega) _).trans (below_ext.mono (by (try simp only [World.size_alloc, size_ext, World.size_setCell]); omega))
  have x1 : w1.heap[w.heap.size]? = some (.cells #[.int .u64 ix, .int .i64 ibk, .int .i64 irp, .int .u32 iix] 31) := F1 _ _ (hp_alloc _ (hp_new rfl))
  have x2 : w1.heap[w.heap.size + 1]? = some (.cells #[.int .u32 br, .int .u8 bn] 33) := F1 _ _ (hp_new (by simp))
  have l1 := lt_of_heap x1
  have k1 := fun j => cell_of_heap (i := j) x1
  have k1_0 := (k1 0).trans rfl
  have k1_1 := (k1 1).trans rfl
  have k1_2 := (k1 2).trans rfl
  have k1_3 := (k1 3).trans rfl
  simp only [List.getElem?_toArray, List.getElem?_cons_zero, List.getElem?_cons_succ] at k1_0 k1_1 k1_2 k1_3
  clear k1
  have l2 := lt_of_heap x2
  have k2 := fun j => cell_of_heap (i := j) x2
  have k2_0 := (k2 0).trans rfl
  have k2_1 := (k2 1).trans rfl
  simp only [List.getElem?_toArray, List.getElem?_cons_zero, List.getElem?_cons_succ] at k2_0 k2_1
  clear k2
  clear hy1 F1
  have X1 := Lib.hid x1
  have X2 := Lib.hid x2
  clear x1 x2
  go_wp2_with fail
  refine (nil_Accept _ _ _ _ _ _ _ _).mono ?_
  rintro e w2 ⟨rfl, hy2⟩
  clear k1_0 k1_1 k1_2 k1_3 k2_0 k2_1
  have F2 : ∀ k o, ((w1.alloc (.cells #[.bool false, .int .u32 0, .int .u8 0, .string ⟨#[]⟩] 35)).alloc (.cells #[.int .u32 0, .int .u8 0] 33)).heap[k]? = some o → w2.heap[k]? = some o := fun k o hk => by obtain ⟨y, rfl⟩ := hy2; exact hp_ext hk
  have B2 : Below w.heap.size w w2 := by obtain ⟨y, rfl⟩ := hy2; exact ((B1.alloc (by (try simp only [World.size_alloc, size_ext, World.size_setCell]); omega) _).alloc (by (try simp only [World.size_alloc, size_ext, World.size_setCell]); omega) _).trans (below_ext.mono (by (try simp only [World.size_alloc, size_ext, World.size_setCell]); omega))
  have x1 : w2.heap[w.heap.size]? = some (.cells #[.int .u64 ix, .int .i64 ibk, .int .i64 irp, .int .u32 iix] 31) := F2 _ _ (hp_alloc _ (hp_alloc _ X1.out))
  have x3 : w2.heap[w1.heap.size]? = some (.cells #[.bool false, .int .u32 0, .int .u8 0, .string ⟨#[]⟩] 35) := F2 _ _ (hp_alloc _ (hp_new rfl))
  have x4 : w2.heap[w1.heap.size + 1]? = some (.cells #[.int .u32 0, .int .u8 0] 33) := F2 _ _ (hp_new (by simp))
  have l3 := lt_of_heap x1
  have k3 := fun j => cell_of_heap (i := j) x1
  have k3_0 := (k3 0).trans rfl
  have k3_1 := (k3 1).trans rfl
  have k3_2 := (k3 2).trans rfl
  have k3_3 := (k3 3).trans rfl
  simp only [List.getElem?_toArray, List.getElem?_cons_zero, List.getElem?_cons_succ] at k3_0 k3_1 k3_2 k3_3
  clear k3
  clear hy2 F2 X1 X2
  have X1 := Lib.hid x1
  have X3 := Lib.hid x3
  have X4 := Lib.hid x4
  clear x1 x3 x4
  go_wp2_with fail
  refine (nil_Get _ _ _ _ _).mono ?_
  rintro e w3 ⟨rfl, hy3⟩
  clear k3_0 k3_1 k3_2 k3_3
  have F3 : ∀ k o, (w2.alloc (.cells #[.int .u32 0, .int .u8 0] 33)).heap[k]? = some o → w3.heap[k]? = some o := fun k o hk => by obtain ⟨y, rfl⟩ := hy3; exact hp_ext hk
  have B3 : Below w.heap.size w w3 := by obtain ⟨y, rfl⟩ := hy3; exact (B2.alloc (by (try simp only [World.size_alloc, size_ext, World.size_setCell]); omega) _).trans (below_ext.mono (by (try simp only [World.size_alloc, size_ext, World.size_setCell]); omega))
  have x1 : w3.heap[w.heap.size]? = some (.cells #[.int .u64 ix, .int .i64 ibk, .int .i64 irp, .int .u32 iix] 31) := F3 _ _ (hp_alloc _ X1.out)
  have x3 : w3.heap[w1.heap.size]? = some (.cells #[.bool false, .int .u32 0, .int .u8 0, .string ⟨#[]⟩] 35) := F3 _ _ (hp_alloc _ X3.out)
  have x4 : w3.heap[w1.heap.size + 1]? = some (.cells #[.int .u32 0, .int .u8 0] 33) := F3 _ _ (hp_alloc _ X4.out)
  have x5 : w3.heap[w2.heap.size]? = some (.cells #[.int .u32 0, .int .u8 0] 33) := F3 _ _ (hp_new rfl)
  have l4 := lt_of_heap x3
  have k4 := fun j => cell_of_heap (i := j) x3
  have k4_0 := (k4 0).trans rfl
  have k4_1 := (k4 1).trans rfl
  have k4_2 := (k4 2).trans rfl
  have k4_3 := (k4 3).trans rfl
  simp only [List.getElem?_toArray, List.getElem?_cons_zero, List.getElem?_cons_succ] at k4_0 k4_1 k4_2 k4_3
  clear k4
  have l5 := lt_of_heap x4
  have k5 := fun j => cell_of_heap (i := j) x4
  have k5_0 := (k5 0).trans rfl
  have k5_1 := (k5 1).trans rfl
  simp only [List.getElem?_toArray, List.getElem?_cons_zero, List.getElem?_cons_succ] at k5_0 k5_1
  clear k5
  have l6 := lt_of_heap x5
  have k6 := fun j => cell_of_heap (i := j) x5
  have k6_0 := (k6 0).trans rfl
  have k6_1 := (k6 1).trans rfl
  simp only [List.getElem?_toArray, List.getElem?_cons_zero, List.getElem?_cons_succ] at k6_0 k6_1
  clear k6
  clear hy3 F3 X1 X3 X4
  have X1 := Lib.hid x1
  clear x1 x3 x4 x5
  go_wp2_with fail
  refine (law_alive _).mono ?_
  rintro e w4 ⟨rfl, hb⟩
  have x1 : w4.heap[w.heap.size]? = some (.cells #[.int .u64 ix, .int .i64 ibk, .int .i64 irp, .int .u32 iix] 31) := (hb.block _ (lt_of_heap (hp_alloc _ (hp_alloc _ X1.out)))).trans (hp_alloc _ (hp_alloc _ X1.out))
  have B4 : Below w.heap.size w w4 := ((B3.alloc (by (try simp only [World.size_alloc, size_ext, World.size_setCell]); omega) _).alloc (by (try simp only [World.size_alloc, size_ext, World.size_setCell]); omega) _).trans (hb.mono (by (try simp only [World.size_alloc, size_ext, World.size_setCell]); omega))
  have l7 := lt_of_heap x1
  have k7 := fun j => cell_of_heap (i := j) x1
  have k7_0 := (k7 0).trans rfl
  have k7_1 := (k7 1).trans rfl
  have k7_2 := (k7 2).trans rfl
  have k7_3 := (k7 3).trans rfl
  simp only [List.getElem?_toArray, List.getElem?_cons_zero, List.getElem?_cons_succ] at k7_0 k7_1 k7_2 k7_3
  clear k7
  clear x1 hb
  go_wp2_with (first | (go_at_call 14; refine (nil_Forget _ _ _ _ _).mono ?_; rintro e w5 ⟨rfl, y5, rfl⟩) | (go_at_call 16; refine (nil_Count _).mono ?_; rintro e w6 ⟨rfl, y6, rfl⟩))
  go_ret
  exact ⟨by simp, (B4.trans (below_ext.mono (by (try simp only [World.size_alloc, size_ext, World.size_setCell]); omega))).trans (below_ext.mono (by (try simp only [World.size_alloc, size_ext, World.size_setCell]); omega))⟩

theorem readAcceptorNil_31 : Try.prog.readableRec 31 = true ∧ 31 < Try.prog.types.size := ⟨by kernel_rfl, of_decide_eq_true (by kernel_rfl)⟩
theorem readAcceptorNil_33 : Try.prog.readableRec 33 = true ∧ 33 < Try.prog.types.size := ⟨by kernel_rfl, of_decide_eq_true (by kernel_rfl)⟩
theorem ownAcceptorNil : ownKnob Try.prog.godebug = none := by kernel_rfl
theorem laidOutAcceptorNil : laidOutB Try.prog = true := by kernel_rfl
theorem contractAcceptorNil (H : Type) (enc : TypeId × Value → H) (W : World) (base : Nat) (args : Array Value) (ds gs : List (DataW H)) (before : List MemPlace)
    (hval : ∀ (j : Nat) t v, Try.f6.params[j]? = some t → args[j]? = some v → Value.okWide Try.prog W .any base t v)
    (hW : DataW.Whole enc Try.prog Try.f6.params.toList Rows.acceptorNilSpec.vars false W args.toList ds gs before) (hk : Rows.uptoSmall H (ds ++ gs) = true) :
    Calls Try.prog 6 args W fun e W' => ∃ v, e = .returned v ∧ Rows.acceptorNilSpec.post enc Try.prog Try.f6 false true false false W args v W' := by
  have hfin : ∀ W', Below W.heap.size W W' → Rows.acceptorNilSpec.post enc Try.prog Try.f6 false true false false W args (.bool true) W' := fun W' hb =>
    post_of_walk (n := 2) (boolT := 4) rfl (fun ds h => by match ds, h with | [a0, a1], _ => exact ⟨rfl, rfl, rfl⟩) rfl rfl Try.underlying4 laidOutAcceptorNil (fun t ht => by rw [Try.params6] at ht; simp at ht; rcases ht with rfl | rfl; exact readAcceptorNil_31; exact readAcceptorNil_33) hW hb
  have hN : Rows.uptoBulkAll (ds ++ gs) ≤ 1048576 := of_decide_eq_true hk
  obtain ⟨p, q, hA, hV, rfl, hfz, hnd⟩ := hW
  rw [Try.params6] at hA hval
  obtain ⟨v0, vs0, d0, ds0, p0, q0, hargs, rfl, rfl, h0, r0⟩ := trodAll_cons hA
  obtain ⟨v1, vs1, d1, ds1, p1, q1, rfl, rfl, rfl, h1, r1⟩ := trodAll_cons r0
  obtain ⟨rfl, rfl, rfl⟩ := trodAll_nil r1
  obtain rfl : args = #[v0, v1] := by cases args; simp_all
  simp only [List.cons_append, List.nil_append, Rows.uptoBulkAll] at hN
  obtain ⟨cs0, rfl, hs0⟩ := okWide_struct Try.underlying31 (hval 0 31 v0 rfl rfl)
  obtain ⟨f0, g0⟩ := h0
  have ty0 := typed_of_trod (N := 1048576) f0 _ _ _ g0 (by simp only; omega)
  obtain ⟨cs1, rfl, hs1⟩ := okWide_struct Try.underlying33 (hval 1 33 v1 rfl rfl)
  obtain ⟨f1, g1⟩ := h1
  have ty1 := typed_of_trod (N := 1048576) f1 _ _ _ g1 (by simp only; omega)
  obtain ⟨i, hi, ei⟩ := read_inst ty0
  obtain ⟨b, eb⟩ := read_ballot ty1
  have e0 : Value.agg cs0 = i.val := by
    unfold Inst.val
    congr 1
    apply Array.ext'
    simpa [Value.cells] using ei
  have e1 : Value.agg cs1 = b.val := by
    unfold Ballot.val
    congr 1
    apply Array.ext'
    simpa [Value.cells] using eb
  rw [e0, e1] at hfin ⊢
  exact (walkNil i b W).mono fun e W' ⟨he, hy⟩ => ⟨_, he, hfin W' hy⟩

set_option maxRecDepth 100000 in
theorem liftedAcceptorNil (os : Os) (started : os.Started) (H : Type) (enc : TypeId × Value → H) (F : Stop.Interp) :
    ReturnsInHanded {} Try.checked os 6 .any ((Rows.OpenSpec.upto Rows.acceptorNilSpec).pre6 enc Try.prog Try.f6 Rows.acceptorNilUptoRow.domain false) (((Rows.OpenSpec.upto Rows.acceptorNilSpec).at F).post enc Try.prog Try.f6 false true false false) := by
  refine returnsInHanded_of_cond (C := Try.checked) (s := Rows.OpenSpec.upto Rows.acceptorNilSpec) (k := Rows.uptoSmall) rfl ownAcceptorNil started (by kernel_rfl) Try.func6
    (OpenSpec.witness (enc := enc) (C := Try.checked) (s := Rows.OpenSpec.upto Rows.acceptorNilSpec) (k := Rows.uptoSmall) rfl false
      ⟨#[], #[.agg #[.int .u64 0, .int .i64 0, .int .i64 0, .int .u32 0], .agg #[.int .u32 0, .int .u8 0]], []⟩ 8 (by kernel_rfl) (by kernel_rfl) (by kernel_rfl)
      (x := ([.agg [.lit (.int .u64 0), .lit (.int .i64 0), .lit (.int .i64 0), .lit (.int .u32 0)], .agg [.lit (.int .u32 0), .lit (.int .u8 0)]], [], [])) (by kernel_rfl) rfl (by kernel_rfl)) ?_
  intro W base args ds gs before hval hW _ hk _
  exact contractAcceptorNil H enc W base args ds gs before hval hW hk

theorem AcceptorNil_holds : Rows.AcceptorNilUptoSaid :=
  OpenClaim.holds_of_cond 6 Try.f6 rfl rfl rfl rfl rfl rfl rfl ⟨rfl, rfl, rfl, rfl, rfl⟩ rfl rfl rfl rfl rfl (by kernel_rfl) Try.func6 (by kernel_rfl)
    (of_decide_eq_true (by kernel_rfl)) (by unfold Func.isWrapper; first | (rw [if_pos (by decide +kernel)]; kernel_rfl) | (rw [if_neg (by decide +kernel)]; exact ⟨rfl, rfl⟩))
    (fun os started H enc _ F => liftedAcceptorNil os started H enc F)
end Go.Proofs.Ytbpanhmpffjmfaa
