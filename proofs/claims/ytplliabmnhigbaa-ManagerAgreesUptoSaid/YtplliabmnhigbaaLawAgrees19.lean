/- PROVED: managers agree (ManagerAgrees): for arguments of bulk at most 1048576, the law returns true, and each argument reads behind the call as it read before. -/
import Derived.Test.YtplliabmnhigbaaAgrD19
set_option linter.unusedVariables false
set_option linter.unusedSimpArgs false
namespace Go.Proofs.Ytplliabmnhigbaa
open Go.RowKit Go.WideShapes Go.ChangeShapes Go.ChangeAt Go.Tk
theorem bound64 {n : Int} (h : (Lit.int .i64 n).wf = true) : inI64 n := by
  simp only [Lit.wf, IntKind.min, IntKind.max, IntKind.signed, IntKind.bits, Bool.and_eq_true, decide_eq_true_eq] at h
  unfold inI64
  simp at h
  omega
theorem cells_ev : Try.prog.cellsOf 87 = 7 := by kernel_rfl
theorem len7 {l : List Value} (h : l.length = 7) : ∃ a b c d e f g, l = [a, b, c, d, e, f, g] := by
  match l, h with
  | [a, b, c, d, e, f, g], _ => exact ⟨a, b, c, d, e, f, g, rfl⟩
theorem read_ev {w : World} {N f : Nat} {cs : List Value} (h : Typed Try.prog w N f 87 cs) : ∃ v : EvR, v.ok ∧ cs = v.cells := by
  obtain ⟨f', hl, hf⟩ := typed_struct Try.underlying87 h
  obtain ⟨c0, c1, c2, c3, c4, c5, c6, rfl⟩ := len7 (hl.trans cells_ev)
  have h0 : Typed Try.prog w N f' 3 (([c0, c1, c2, c3, c4, c5, c6].drop 0).take (Try.prog.cellsOf 3)) := hf 0 _ rfl
  have h1 : Typed Try.prog w N f' 3 (([c0, c1, c2, c3, c4, c5, c6].drop 1).take (Try.prog.cellsOf 3)) := hf 1 _ rfl
  have h2 : Typed Try.prog w N f' 3 (([c0, c1, c2, c3, c4, c5, c6].drop 2).take (Try.prog.cellsOf 3)) := hf 2 _ rfl
  have h3 : Typed Try.prog w N f' 3 (([c0, c1, c2, c3, c4, c5, c6].drop 3).take (Try.prog.cellsOf 3)) := hf 3 _ rfl
  have h4 : Typed Try.prog w N f' 3 (([c0, c1, c2, c3, c4, c5, c6].drop 4).take (Try.prog.cellsOf 3)) := hf 4 _ rfl
  have h5 : Typed Try.prog w N f' 3 (([c0, c1, c2, c3, c4, c5, c6].drop 5).take (Try.prog.cellsOf 3)) := hf 5 _ rfl
  have h6 : Typed Try.prog w N f' 4 (([c0, c1, c2, c3, c4, c5, c6].drop 6).take (Try.prog.cellsOf 4)) := hf 6 _ rfl
  simp only [cells_int, cells_bool] at h0 h1 h2 h3 h4 h5 h6
  obtain ⟨a0, e0, k0⟩ := typed_int Try.underlying3 h0
  obtain ⟨a1, e1, k1⟩ := typed_int Try.underlying3 h1
  obtain ⟨a2, e2, k2⟩ := typed_int Try.underlying3 h2
  obtain ⟨a3, e3, k3⟩ := typed_int Try.underlying3 h3
  obtain ⟨a4, e4, k4⟩ := typed_int Try.underlying3 h4
  obtain ⟨a5, e5, k5⟩ := typed_int Try.underlying3 h5
  obtain ⟨y, e6⟩ := typed_bool Try.underlying4 h6
  simp at e0 e1 e2 e3 e4 e5 e6
  exact ⟨⟨a0, a1, a2, a3, a4, a5, y⟩, ⟨bound64 k1, bound64 k2, bound64 k3, bound64 k4, bound64 k5⟩, by simp only [EvR.cells, e0, e1, e2, e3, e4, e5, e6]⟩
set_option maxRecDepth 100000 in
theorem readManagerAgrees_26 : Try.prog.readableRec 26 = true ∧ 26 < Try.prog.types.size := ⟨by kernel_rfl, of_decide_eq_true (by kernel_rfl)⟩
set_option maxRecDepth 100000 in
theorem readManagerAgrees_74 : Try.prog.readableRec 74 = true ∧ 74 < Try.prog.types.size := ⟨by kernel_rfl, of_decide_eq_true (by kernel_rfl)⟩
set_option maxRecDepth 100000 in
theorem ownManagerAgrees : ownKnob Try.prog.godebug = none := by kernel_rfl
set_option maxRecDepth 100000 in
theorem laidOutManagerAgrees : laidOutB Try.prog = true := by kernel_rfl
set_option maxRecDepth 100000 in
theorem contractManagerAgrees (H : Type) (enc : TypeId × Value → H) (W : World) (base : Nat) (args : Array Value) (ds gs : List (DataW H)) (before : List MemPlace)
    (hval : ∀ (j : Nat) t v, Try.f6.params[j]? = some t → args[j]? = some v → Value.okWide Try.prog W .any base t v)
    (hW : DataW.Whole enc Try.prog Try.f6.params.toList Rows.managerAgreesSpec.vars false W args.toList ds gs before) (hk : Rows.uptoSmall H (ds ++ gs) = true) :
    Calls Try.prog 6 args W fun e W' => ∃ v, e = .returned v ∧ Rows.managerAgreesSpec.post enc Try.prog Try.f6 false true false false W args v W' := by
  have hfin : ∀ W', Below W.heap.size W W' → Rows.managerAgreesSpec.post enc Try.prog Try.f6 false true false false W args (.bool true) W' := fun W' hb =>
    post_of_walk (n := 2) (boolT := 4) rfl (fun ds h => by match ds, h with | [a0, a1], _ => exact ⟨rfl, rfl, rfl⟩) rfl rfl Try.underlying4 laidOutManagerAgrees (fun t ht => by rw [Try.params6] at ht; simp at ht; rcases ht with rfl | rfl; exact readManagerAgrees_26; exact readManagerAgrees_74) hW hb
  have hN : Rows.uptoBulkAll (ds ++ gs) ≤ 1048576 := of_decide_eq_true hk
  obtain ⟨p, q, hA, hV, rfl, hfz, hnd⟩ := hW
  rw [Try.params6] at hA hval
  obtain ⟨v0, vs0, d0, ds0, p0, q0, hargs, rfl, rfl, h0, r0⟩ := trodAll_cons hA
  obtain ⟨v1, vs1, d1, ds1, p1, q1, rfl, rfl, rfl, h1, r1⟩ := trodAll_cons r0
  obtain ⟨rfl, rfl, rfl⟩ := trodAll_nil r1
  obtain rfl : args = #[v0, v1] := by cases args; simp_all
  simp only [List.cons_append, List.nil_append, Rows.uptoBulkAll] at hN
  obtain ⟨cs0, rfl, hs0⟩ := okWide_struct Try.underlying26 (hval 0 26 v0 rfl rfl)
  obtain ⟨f0, g0⟩ := h0
  have ty0 := typed_of_trod (N := 1048576) f0 _ _ _ g0 (by simp only; omega)
  obtain ⟨A1, len1, cap1, rfl⟩ := okWide_slice Try.underlying74 (hval 1 74 v1 rfl rfl)
  obtain ⟨f1, g1⟩ := h1
  have ty1 := typed_of_trod (N := 1048576) f1 _ _ _ g1 (by simp only; omega)
  obtain ⟨t, ht, hi⟩ := read_txs (Nat.le_refl _) ty0
  have e0 : Value.agg cs0 = t.val := by rw [← ht]; simp [Value.cells]
  rw [e0] at hfin ⊢
  obtain ⟨l, hl, hok⟩ := read_list (cs := EvR.cells) (ok := EvR.ok) Try.underlying74 cells_ev (by omega) (fun f' l' h => read_ev h) (Nat.le_refl _) ty1
  exact (agrees_walk W t hi _ l hl hok).mono fun e W' ⟨he, hy⟩ => ⟨_, he, hfin W' hy⟩

set_option maxRecDepth 100000 in
theorem liftedManagerAgrees (os : Os) (started : os.Started) (H : Type) (enc : TypeId × Value → H) (F : Stop.Interp) :
    ReturnsInHanded {} Try.checked os 6 .any ((Rows.OpenSpec.upto Rows.managerAgreesSpec).pre6 enc Try.prog Try.f6 Rows.managerAgreesUptoRow.domain false) (((Rows.OpenSpec.upto Rows.managerAgreesSpec).at F).post enc Try.prog Try.f6 false true false false) := by
  refine returnsInHanded_of_cond (C := Try.checked) (s := Rows.OpenSpec.upto Rows.managerAgreesSpec) (k := Rows.uptoSmall) rfl ownManagerAgrees started (by kernel_rfl) Try.func6
    (OpenSpec.witness (enc := enc) (C := Try.checked) (s := Rows.OpenSpec.upto Rows.managerAgreesSpec) (k := Rows.uptoSmall) rfl false
      ⟨#[], #[.agg #[.int .u64 0, .int .i64 0, .int .i64 0, .int .i64 0, .int .i64 0, .slice none 0 0], .slice none 0 0], []⟩ 8 (by kernel_rfl) (by kernel_rfl) (by kernel_rfl)
      (x := ([.agg [.lit (.int .u64 0), .lit (.int .i64 0), .agg [.lit (.int .i64 0), .lit (.int .i64 0), .lit (.int .i64 0)], .nil], .nil], [], [])) (by kernel_rfl) rfl (by kernel_rfl)) ?_
  intro W base args ds gs before hval hW _ hk _
  exact contractManagerAgrees H enc W base args ds gs before hval hW hk

theorem ManagerAgrees_holds : Rows.ManagerAgreesUptoSaid :=
  OpenClaim.holds_of_cond 6 Try.f6 rfl rfl rfl rfl rfl rfl rfl ⟨rfl, rfl, rfl, rfl, rfl⟩ rfl rfl rfl rfl rfl (by kernel_rfl) Try.func6 (by kernel_rfl)
    (of_decide_eq_true (by kernel_rfl)) (by unfold Func.isWrapper; first | (rw [if_pos (by decide +kernel)]; kernel_rfl) | (rw [if_neg (by decide +kernel)]; exact ⟨rfl, rfl⟩))
    (fun os started H enc _ F => liftedManagerAgrees os started H enc F)
end Go.Proofs.Ytplliabmnhigbaa
