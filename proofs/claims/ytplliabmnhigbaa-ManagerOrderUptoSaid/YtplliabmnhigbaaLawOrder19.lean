/- PROVED: in whatever order a manager hears, it comes to what the votes come to (ManagerOrder): for arguments of bulk at most 1048576, the law returns true, and each argument reads behind the call as it read before. -/
import Derived.Test.YtplliabmnhigbaaOrdW19
set_option linter.unusedVariables false
set_option linter.unusedSimpArgs false
namespace Go.Proofs.Ytplliabmnhigbaa
open Go.RowKit Go.WideShapes Go.ChangeShapes Go.ChangeAt Go.Tk
theorem bound64 {n : Int} (h : (Lit.int .i64 n).wf = true) : inI64 n := by
  simp only [Lit.wf, IntKind.min, IntKind.max, IntKind.signed, IntKind.bits, Bool.and_eq_true, decide_eq_true_eq] at h
  unfold inI64
  simp at h
  omega
theorem read_i64 {w : World} {N f : Nat} {l : List Value} (h : Typed Try.prog w N f 3 l) : ∃ a : Int, inI64 a ∧ l = i64Cells a := by
  obtain ⟨n, e, hn⟩ := typed_int Try.underlying3 h
  exact ⟨n, bound64 hn, e⟩
set_option maxRecDepth 100000 in
theorem readManagerOrder_26 : Try.prog.readableRec 26 = true ∧ 26 < Try.prog.types.size := ⟨by kernel_rfl, of_decide_eq_true (by kernel_rfl)⟩
set_option maxRecDepth 100000 in
theorem readManagerOrder_27 : Try.prog.readableRec 27 = true ∧ 27 < Try.prog.types.size := ⟨by kernel_rfl, of_decide_eq_true (by kernel_rfl)⟩
set_option maxRecDepth 100000 in
theorem readManagerOrder_28 : Try.prog.readableRec 28 = true ∧ 28 < Try.prog.types.size := ⟨by kernel_rfl, of_decide_eq_true (by kernel_rfl)⟩
set_option maxRecDepth 100000 in
theorem ownManagerOrder : ownKnob Try.prog.godebug = none := by kernel_rfl
set_option maxRecDepth 100000 in
theorem laidOutManagerOrder : laidOutB Try.prog = true := by kernel_rfl
set_option maxRecDepth 100000 in
theorem contractManagerOrder (H : Type) (enc : TypeId × Value → H) (W : World) (base : Nat) (args : Array Value) (ds gs : List (DataW H)) (before : List MemPlace)
    (hval : ∀ (j : Nat) t v, Try.f3.params[j]? = some t → args[j]? = some v → Value.okWide Try.prog W .any base t v)
    (hW : DataW.Whole enc Try.prog Try.f3.params.toList Rows.managerOrderSpec.vars false W args.toList ds gs before) (hk : Rows.uptoSmall H (ds ++ gs) = true) :
    Calls Try.prog 3 args W fun e W' => ∃ v, e = .returned v ∧ Rows.managerOrderSpec.post enc Try.prog Try.f3 false true false false W args v W' := by
  have hfin : ∀ W', Below W.heap.size W W' → Rows.managerOrderSpec.post enc Try.prog Try.f3 false true false false W args (.bool true) W' := fun W' hb =>
    post_of_walk (n := 3) (boolT := 4) rfl (fun ds h => by match ds, h with | [a0, a1, a2], _ => exact ⟨rfl, rfl, rfl⟩) rfl rfl Try.underlying4 laidOutManagerOrder (fun t ht => by rw [Try.params3] at ht; simp at ht; rcases ht with rfl | rfl | rfl; exact readManagerOrder_26; exact readManagerOrder_27; exact readManagerOrder_28) hW hb
  have hN : Rows.uptoBulkAll (ds ++ gs) ≤ 1048576 := of_decide_eq_true hk
  obtain ⟨p, q, hA, hV, rfl, hfz, hnd⟩ := hW
  rw [Try.params3] at hA hval
  obtain ⟨v0, vs0, d0, ds0, p0, q0, hargs, rfl, rfl, h0, r0⟩ := trodAll_cons hA
  obtain ⟨v1, vs1, d1, ds1, p1, q1, rfl, rfl, rfl, h1, r1⟩ := trodAll_cons r0
  obtain ⟨v2, vs2, d2, ds2, p2, q2, rfl, rfl, rfl, h2, r2⟩ := trodAll_cons r1
  obtain ⟨rfl, rfl, rfl⟩ := trodAll_nil r2
  obtain rfl : args = #[v0, v1, v2] := by cases args; simp_all
  simp only [List.cons_append, List.nil_append, Rows.uptoBulkAll] at hN
  obtain ⟨cs0, rfl, hs0⟩ := okWide_struct Try.underlying26 (hval 0 26 v0 rfl rfl)
  obtain ⟨f0, g0⟩ := h0
  have ty0 := typed_of_trod (N := 1048576) f0 _ _ _ g0 (by simp only; omega)
  obtain ⟨A1, len1, cap1, rfl⟩ := okWide_slice Try.underlying27 (hval 1 27 v1 rfl rfl)
  obtain ⟨f1, g1⟩ := h1
  have ty1 := typed_of_trod (N := 1048576) f1 _ _ _ g1 (by simp only; omega)
  obtain ⟨A2, len2, cap2, rfl⟩ := okWide_slice Try.underlying28 (hval 2 28 v2 rfl rfl)
  obtain ⟨f2, g2⟩ := h2
  have ty2 := typed_of_trod (N := 1048576) f2 _ _ _ g2 (by simp only; omega)
  obtain ⟨t, ht, hi⟩ := read_txs (Nat.le_refl _) ty0
  have e0 : Value.agg cs0 = t.val := by rw [← ht]; simp [Value.cells]
  rw [e0] at hfin ⊢
  obtain ⟨n, fr, hv⟩ := read_votes (Nat.le_refl _) ty1
  obtain ⟨l, hl, hok⟩ := read_list (cs := i64Cells) (ok := inI64) Try.underlying28 cells_int (by omega) (fun f' l' h => read_i64 h) (Nat.le_refl _) ty2
  exact (order_walk W t hi _ n fr hv _ l hl hok).mono fun e W' ⟨he, hy⟩ => ⟨_, he, hfin W' hy⟩

set_option maxRecDepth 100000 in
theorem liftedManagerOrder (os : Os) (started : os.Started) (H : Type) (enc : TypeId × Value → H) (F : Stop.Interp) :
    ReturnsInHanded {} Try.checked os 3 .any ((Rows.OpenSpec.upto Rows.managerOrderSpec).pre6 enc Try.prog Try.f3 Rows.managerOrderUptoRow.domain false) (((Rows.OpenSpec.upto Rows.managerOrderSpec).at F).post enc Try.prog Try.f3 false true false false) := by
  refine returnsInHanded_of_cond (C := Try.checked) (s := Rows.OpenSpec.upto Rows.managerOrderSpec) (k := Rows.uptoSmall) rfl ownManagerOrder started (by kernel_rfl) Try.func3
    (OpenSpec.witness (enc := enc) (C := Try.checked) (s := Rows.OpenSpec.upto Rows.managerOrderSpec) (k := Rows.uptoSmall) rfl false
      ⟨#[], #[.agg #[.int .u64 0, .int .i64 0, .int .i64 0, .int .i64 0, .int .i64 0, .slice none 0 0], .slice none 0 0, .slice none 0 0], []⟩ 8 (by kernel_rfl) (by kernel_rfl) (by kernel_rfl)
      (x := ([.agg [.lit (.int .u64 0), .lit (.int .i64 0), .agg [.lit (.int .i64 0), .lit (.int .i64 0), .lit (.int .i64 0)], .nil], .nil, .nil], [], [])) (by kernel_rfl) rfl (by kernel_rfl)) ?_
  intro W base args ds gs before hval hW _ hk _
  exact contractManagerOrder H enc W base args ds gs before hval hW hk

theorem ManagerOrder_holds : Rows.ManagerOrderUptoSaid :=
  OpenClaim.holds_of_cond 3 Try.f3 rfl rfl rfl rfl rfl rfl rfl ⟨rfl, rfl, rfl, rfl, rfl⟩ rfl rfl rfl rfl rfl (by kernel_rfl) Try.func3 (by kernel_rfl)
    (of_decide_eq_true (by kernel_rfl)) (by unfold Func.isWrapper; first | (rw [if_pos (by decide +kernel)]; kernel_rfl) | (rw [if_neg (by decide +kernel)]; exact ⟨rfl, rfl⟩))
    (fun os started H enc _ F => liftedManagerOrder os started H enc F)
end Go.Proofs.Ytplliabmnhigbaa
