/- PROVED: a session is a map (SessionModel): for arguments of bulk at most 1048576, the law returns true, and each argument reads behind the call as it read before. -/
import Derived.Test.YtomcekjhehceoaaModel20
set_option linter.unusedVariables false
set_option linter.unusedSimpArgs false
namespace Go.Proofs.Ytomcekjhehceoaa
open Go.RowKit Go.WideShapes Go.ChangeShapes Go.ChangeAt Go.Tk
set_option maxRecDepth 100000 in
theorem readSessionModel_22 : Try.prog.readableRec 22 = true ∧ 22 < Try.prog.types.size := ⟨by kernel_rfl, of_decide_eq_true (by kernel_rfl)⟩
set_option maxRecDepth 100000 in
theorem ownSessionModel : ownKnob Try.prog.godebug = none := by kernel_rfl
set_option maxRecDepth 100000 in
theorem laidOutSessionModel : laidOutB Try.prog = true := by kernel_rfl
set_option maxRecDepth 100000 in
theorem contractSessionModel (H : Type) (enc : TypeId × Value → H) (W : World) (base : Nat) (args : Array Value) (ds gs : List (DataW H)) (before : List MemPlace)
    (hval : ∀ (j : Nat) t v, Try.f5.params[j]? = some t → args[j]? = some v → Value.okWide Try.prog W .any base t v)
    (hW : DataW.Whole enc Try.prog Try.f5.params.toList Rows.sessionModelSpec.vars false W args.toList ds gs before) (hk : Rows.uptoSmall H (ds ++ gs) = true) :
    Calls Try.prog 5 args W fun e W' => ∃ v, e = .returned v ∧ Rows.sessionModelSpec.post enc Try.prog Try.f5 false true false false W args v W' := by
  have hfin : ∀ W', Below W.heap.size W W' → Rows.sessionModelSpec.post enc Try.prog Try.f5 false true false false W args (.bool true) W' := fun W' hb =>
    post_of_walk (n := 1) (boolT := 4) rfl (fun ds h => by match ds, h with | [a0], _ => exact ⟨rfl, rfl, rfl⟩) rfl rfl Try.underlying4 laidOutSessionModel (fun t ht => by rw [Try.params5] at ht; simp at ht; subst ht; exact readSessionModel_22) hW hb
  have hN : Rows.uptoBulkAll (ds ++ gs) ≤ 1048576 := of_decide_eq_true hk
  obtain ⟨p, q, hA, hV, rfl, hfz, hnd⟩ := hW
  rw [Try.params5] at hA hval
  obtain ⟨v0, vs0, d0, ds0, p0, q0, hargs, rfl, rfl, h0, r0⟩ := trodAll_cons hA
  obtain ⟨rfl, rfl, rfl⟩ := trodAll_nil r0
  obtain rfl : args = #[v0] := by cases args; simp_all
  simp only [List.cons_append, List.nil_append, Rows.uptoBulkAll] at hN
  obtain ⟨A0, len0, cap0, rfl⟩ := okWide_slice Try.underlying22 (hval 0 22 v0 rfl rfl)
  obtain ⟨f0, g0⟩ := h0
  have ty0 := typed_of_trod (N := 1048576) f0 _ _ _ g0 (by simp only; omega)
  obtain ⟨l0, hl0, hok0⟩ := read_list (cs := OpR.cells) (ok := fun o => o.ok W) Try.underlying22 cells_op (by omega) (fun f' l' h => read_op (Nat.le_refl _) h) (Nat.le_refl _) ty0
  exact (model_walk W _ l0 hl0 hok0).mono fun e W' ⟨he, hy⟩ => ⟨_, he, hfin W' hy⟩

set_option maxRecDepth 100000 in
theorem liftedSessionModel (os : Os) (started : os.Started) (H : Type) (enc : TypeId × Value → H) (F : Stop.Interp) :
    ReturnsInHanded {} Try.checked os 5 .any ((Rows.OpenSpec.upto Rows.sessionModelSpec).pre6 enc Try.prog Try.f5 Rows.sessionModelUptoRow.domain false) (((Rows.OpenSpec.upto Rows.sessionModelSpec).at F).post enc Try.prog Try.f5 false true false false) := by
  refine returnsInHanded_of_cond (C := Try.checked) (s := Rows.OpenSpec.upto Rows.sessionModelSpec) (k := Rows.uptoSmall) rfl ownSessionModel started (by kernel_rfl) Try.func5
    (OpenSpec.witness (enc := enc) (C := Try.checked) (s := Rows.OpenSpec.upto Rows.sessionModelSpec) (k := Rows.uptoSmall) rfl false
      ⟨#[], #[.slice none 0 0], []⟩ 8 (by kernel_rfl) (by kernel_rfl) (by kernel_rfl)
      (x := ([.nil], [], [])) (by kernel_rfl) rfl (by kernel_rfl)) ?_
  intro W base args ds gs before hval hW _ hk _
  exact contractSessionModel H enc W base args ds gs before hval hW hk

theorem SessionModel_holds : Rows.SessionModelUptoSaid :=
  OpenClaim.holds_of_cond 5 Try.f5 rfl rfl rfl rfl rfl rfl rfl ⟨rfl, rfl, rfl, rfl, rfl⟩ rfl rfl rfl rfl rfl (by kernel_rfl) Try.func5 (by kernel_rfl)
    (of_decide_eq_true (by kernel_rfl)) (by unfold Func.isWrapper; first | (rw [if_pos (by decide +kernel)]; kernel_rfl) | (rw [if_neg (by decide +kernel)]; exact ⟨rfl, rfl⟩))
    (fun os started H enc _ F => liftedSessionModel os started H enc F)
end Go.Proofs.Ytomcekjhehceoaa
