/- PROVED: ONE VALUE IS CHOSEN, whatever is lost, doubled, late (ProposerOneValue): for arguments of bulk at most 1048576, the law returns true, and each argument reads behind the call as it read before. -/
import Derived.Test.YtkhpikjmhamppaaOneInit11
set_option linter.unusedVariables false
set_option linter.unusedSimpArgs false
namespace Go.Proofs.Ytkhpikjmhamppaa
open Go.RowKit Go.WideShapes Go.ChangeShapes Go.ChangeAt Go.Tk
set_option maxRecDepth 100000 in
theorem readProposerOneValue_3 : Try.prog.readableRec 3 = true ∧ 3 < Try.prog.types.size := ⟨by kernel_rfl, of_decide_eq_true (by kernel_rfl)⟩
set_option maxRecDepth 100000 in
theorem readProposerOneValue_9 : Try.prog.readableRec 9 = true ∧ 9 < Try.prog.types.size := ⟨by kernel_rfl, of_decide_eq_true (by kernel_rfl)⟩
set_option maxRecDepth 100000 in
theorem readProposerOneValue_66 : Try.prog.readableRec 66 = true ∧ 66 < Try.prog.types.size := ⟨by kernel_rfl, of_decide_eq_true (by kernel_rfl)⟩
set_option maxRecDepth 100000 in
theorem ownProposerOneValue : ownKnob Try.prog.godebug = none := by kernel_rfl
set_option maxRecDepth 100000 in
theorem laidOutProposerOneValue : laidOutB Try.prog = true := by kernel_rfl
set_option maxRecDepth 100000 in
theorem contractProposerOneValue (H : Type) (enc : TypeId × Value → H) (W : World) (base : Nat) (args : Array Value) (ds gs : List (DataW H)) (before : List MemPlace)
    (hval : ∀ (j : Nat) t v, Try.f7.params[j]? = some t → args[j]? = some v → Value.okWide Try.prog W .any base t v)
    (hW : DataW.Whole enc Try.prog Try.f7.params.toList Rows.proposerOneValueSpec.vars false W args.toList ds gs before) (hk : Rows.uptoSmall H (ds ++ gs) = true) :
    Calls Try.prog 7 args W fun e W' => ∃ v, e = .returned v ∧ Rows.proposerOneValueSpec.post enc Try.prog Try.f7 false true false false W args v W' := by
  have hfin : ∀ W', Below W.heap.size W W' → Rows.proposerOneValueSpec.post enc Try.prog Try.f7 false true false false W args (.bool true) W' := fun W' hb =>
    post_of_walk (n := 3) (boolT := 4) rfl (fun ds h => by match ds, h with | [a0, a1, a2], _ => exact ⟨rfl, rfl, rfl⟩) rfl rfl Try.underlying4 laidOutProposerOneValue (fun t ht => by rw [Try.params7] at ht; simp at ht; rcases ht with rfl | rfl | rfl; exact readProposerOneValue_3; exact readProposerOneValue_9; exact readProposerOneValue_66) hW hb
  have hN : Rows.uptoBulkAll (ds ++ gs) ≤ 1048576 := of_decide_eq_true hk
  obtain ⟨p, q, hA, hV, rfl, hfz, hnd⟩ := hW
  rw [Try.params7] at hA hval
  obtain ⟨v0, vs0, d0, ds0, p0, q0, hargs, rfl, rfl, h0, r0⟩ := trodAll_cons hA
  obtain ⟨v1, vs1, d1, ds1, p1, q1, rfl, rfl, rfl, h1, r1⟩ := trodAll_cons r0
  obtain ⟨v2, vs2, d2, ds2, p2, q2, rfl, rfl, rfl, h2, r2⟩ := trodAll_cons r1
  obtain ⟨rfl, rfl, rfl⟩ := trodAll_nil r2
  obtain rfl : args = #[v0, v1, v2] := by cases args; simp_all
  simp only [List.cons_append, List.nil_append, Rows.uptoBulkAll] at hN
  obtain ⟨x0, rfl⟩ := okWide_int Try.underlying3 (hval 0 3 v0 rfl rfl)
  obtain ⟨f0, g0⟩ := h0
  have ty0 := typed_of_trod (N := 1048576) f0 _ _ _ g0 (by simp only; omega)
  obtain ⟨x1, rfl⟩ := okWide_string Try.underlying9 (hval 1 9 v1 rfl rfl)
  obtain ⟨f1, g1⟩ := h1
  have ty1 := typed_of_trod (N := 1048576) f1 _ _ _ g1 (by simp only; omega)
  obtain ⟨A2, len2, cap2, rfl⟩ := okWide_slice Try.underlying66 (hval 2 66 v2 rfl rfl)
  obtain ⟨f2, g2⟩ := h2
  have ty2 := typed_of_trod (N := 1048576) f2 _ _ _ g2 (by simp only; omega)
  obtain ⟨c, hc1, hc2⟩ := typed_int Try.underlying3 ty0
  obtain rfl : x0 = c := by simpa [Value.cells] using hc1
  obtain ⟨l, hl, hok⟩ := read_list (cs := Ev.cells) (ok := fun e : Ev => inI64 e.kind ∧ inI64 e.a ∧ inI64 e.b) Try.underlying66 cells_event (by omega) (fun f' l' h => read_event h) (Nat.le_refl _) ty2
  exact (one_walk W x0 (bound64 hc2) x1 _ l hl hok).mono fun e W' ⟨he, hy⟩ => ⟨_, he, hfin W' hy⟩

set_option maxRecDepth 100000 in
theorem liftedProposerOneValue (os : Os) (started : os.Started) (H : Type) (enc : TypeId × Value → H) (F : Stop.Interp) :
    ReturnsInHanded {} Try.checked os 7 .any ((Rows.OpenSpec.upto Rows.proposerOneValueSpec).pre6 enc Try.prog Try.f7 Rows.proposerOneValueUptoRow.domain false) (((Rows.OpenSpec.upto Rows.proposerOneValueSpec).at F).post enc Try.prog Try.f7 false true false false) := by
  refine returnsInHanded_of_cond (C := Try.checked) (s := Rows.OpenSpec.upto Rows.proposerOneValueSpec) (k := Rows.uptoSmall) rfl ownProposerOneValue started (by kernel_rfl) Try.func7
    (OpenSpec.witness (enc := enc) (C := Try.checked) (s := Rows.OpenSpec.upto Rows.proposerOneValueSpec) (k := Rows.uptoSmall) rfl false
      ⟨#[], #[.int .i64 0, .string .empty, .slice none 0 0], []⟩ 8 (by kernel_rfl) (by kernel_rfl) (by kernel_rfl)
      (x := ([.lit (.int .i64 0), .lit (.string []), .nil], [], [])) (by kernel_rfl) rfl (by kernel_rfl)) ?_
  intro W base args ds gs before hval hW _ hk _
  exact contractProposerOneValue H enc W base args ds gs before hval hW hk

theorem ProposerOneValue_holds : Rows.ProposerOneValueUptoSaid :=
  OpenClaim.holds_of_cond 7 Try.f7 rfl rfl rfl rfl rfl rfl rfl ⟨rfl, rfl, rfl, rfl, rfl⟩ rfl rfl rfl rfl rfl (by kernel_rfl) Try.func7 (by kernel_rfl)
    (of_decide_eq_true (by kernel_rfl)) (by unfold Func.isWrapper; first | (rw [if_pos (by decide +kernel)]; kernel_rfl) | (rw [if_neg (by decide +kernel)]; exact ⟨rfl, rfl⟩))
    (fun os started H enc _ F => liftedProposerOneValue os started H enc F)
end Go.Proofs.Ytkhpikjmhamppaa
