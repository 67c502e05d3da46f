/- PROVED: no session: what it answers (SessionNil): for arguments of bulk at most 1048576, the law returns true, and each argument reads behind the call as it read before. -/
import Derived.Test.YtomcekjhehceoaaNil20
set_option linter.unusedVariables false
set_option linter.unusedSimpArgs false
namespace Go.Proofs.Ytomcekjhehceoaa
open Go.RowKit Go.WideShapes Go.ChangeShapes Go.ChangeAt Go.Tk
set_option maxRecDepth 100000 in
theorem readSessionNil_9 : Try.prog.readableRec 9 = true ∧ 9 < Try.prog.types.size := ⟨by kernel_rfl, of_decide_eq_true (by kernel_rfl)⟩
set_option maxRecDepth 100000 in
theorem readSessionNil_36 : Try.prog.readableRec 36 = true ∧ 36 < Try.prog.types.size := ⟨by kernel_rfl, of_decide_eq_true (by kernel_rfl)⟩
set_option maxRecDepth 100000 in
theorem ownSessionNil : ownKnob Try.prog.godebug = none := by kernel_rfl
set_option maxRecDepth 100000 in
theorem laidOutSessionNil : laidOutB Try.prog = true := by kernel_rfl
set_option maxRecDepth 100000 in
theorem contractSessionNil (H : Type) (enc : TypeId × Value → H) (W : World) (base : Nat) (args : Array Value) (ds gs : List (DataW H)) (before : List MemPlace)
    (hval : ∀ (j : Nat) t v, Try.f6.params[j]? = some t → args[j]? = some v → Value.okWide Try.prog W .any base t v)
    (hW : DataW.Whole enc Try.prog Try.f6.params.toList Rows.sessionNilSpec.vars false W args.toList ds gs before) (hk : Rows.uptoSmall H (ds ++ gs) = true) :
    Calls Try.prog 6 args W fun e W' => ∃ v, e = .returned v ∧ Rows.sessionNilSpec.post enc Try.prog Try.f6 false true false false W args v W' := by
  have hfin : ∀ W', Below W.heap.size W W' → Rows.sessionNilSpec.post enc Try.prog Try.f6 false true false false W args (.bool true) W' := fun W' hb =>
    post_of_walk (n := 2) (boolT := 4) rfl (fun ds h => by match ds, h with | [a0, a1], _ => exact ⟨rfl, rfl, rfl⟩) rfl rfl Try.underlying4 laidOutSessionNil (fun t ht => by rw [Try.params6] at ht; simp at ht; rcases ht with rfl | rfl; exact readSessionNil_9; exact readSessionNil_36) hW hb
  have hN : Rows.uptoBulkAll (ds ++ gs) ≤ 1048576 := of_decide_eq_true hk
  obtain ⟨p, q, hA, hV, rfl, hfz, hnd⟩ := hW
  rw [Try.params6] at hA hval
  obtain ⟨v0, vs0, d0, ds0, p0, q0, hargs, rfl, rfl, h0, r0⟩ := trodAll_cons hA
  obtain ⟨v1, vs1, d1, ds1, p1, q1, rfl, rfl, rfl, h1, r1⟩ := trodAll_cons r0
  obtain ⟨rfl, rfl, rfl⟩ := trodAll_nil r1
  obtain rfl : args = #[v0, v1] := by cases args; simp_all
  simp only [List.cons_append, List.nil_append, Rows.uptoBulkAll] at hN
  obtain ⟨x0, rfl⟩ := okWide_string Try.underlying9 (hval 0 9 v0 rfl rfl)
  obtain ⟨f0, g0⟩ := h0
  have ty0 := typed_of_trod (N := 1048576) f0 _ _ _ g0 (by simp only; omega)
  obtain ⟨cs1, rfl, hs1⟩ := okWide_struct Try.underlying36 (hval 1 36 v1 rfl rfl)
  obtain ⟨f1, g1⟩ := h1
  have ty1 := typed_of_trod (N := 1048576) f1 _ _ _ g1 (by simp only; omega)
  obtain ⟨x, hx, _⟩ := read_item (Nat.le_refl _) ty1
  have e1 : Value.agg cs1 = x.val := by
    have h1 : cs1 = x.cells.toArray := by rw [← hx]; simp [Value.cells]
    rw [h1]; rfl
  rw [e1] at hfin ⊢
  exact (nil_walk20 W _ x).mono fun e W' ⟨he, hy⟩ => ⟨_, he, hfin W' hy⟩

set_option maxRecDepth 100000 in
theorem liftedSessionNil (os : Os) (started : os.Started) (H : Type) (enc : TypeId × Value → H) (F : Stop.Interp) :
    ReturnsInHanded {} Try.checked os 6 .any ((Rows.OpenSpec.upto Rows.sessionNilSpec).pre6 enc Try.prog Try.f6 Rows.sessionNilUptoRow.domain false) (((Rows.OpenSpec.upto Rows.sessionNilSpec).at F).post enc Try.prog Try.f6 false true false false) := by
  refine returnsInHanded_of_cond (C := Try.checked) (s := Rows.OpenSpec.upto Rows.sessionNilSpec) (k := Rows.uptoSmall) rfl ownSessionNil started (by kernel_rfl) Try.func6
    (OpenSpec.witness (enc := enc) (C := Try.checked) (s := Rows.OpenSpec.upto Rows.sessionNilSpec) (k := Rows.uptoSmall) rfl false
      ⟨#[], #[.string .empty, .agg #[.int .i64 0, .int .u32 0, .bool false, .slice none 0 0, .int .u32 0, .int .u32 0, .int .u32 0, .int .u32 0]], []⟩ 8 (by kernel_rfl) (by kernel_rfl) (by kernel_rfl)
      (x := ([.lit (.string []), .agg [.lit (.int .i64 0), .lit (.int .u32 0), .lit (.bool false), .nil, .agg [.lit (.int .u32 0), .lit (.int .u32 0), .lit (.int .u32 0), .lit (.int .u32 0)]]], [], [])) (by kernel_rfl) rfl (by kernel_rfl)) ?_
  intro W base args ds gs before hval hW _ hk _
  exact contractSessionNil H enc W base args ds gs before hval hW hk

theorem SessionNil_holds : Rows.SessionNilUptoSaid :=
  OpenClaim.holds_of_cond 6 Try.f6 rfl rfl rfl rfl rfl rfl rfl ⟨rfl, rfl, rfl, rfl, rfl⟩ rfl rfl rfl rfl rfl (by kernel_rfl) Try.func6 (by kernel_rfl)
    (of_decide_eq_true (by kernel_rfl)) (by unfold Func.isWrapper; first | (rw [if_pos (by decide +kernel)]; kernel_rfl) | (rw [if_neg (by decide +kernel)]; exact ⟨rfl, rfl⟩))
    (fun os started H enc _ F => liftedSessionNil os started H enc F)
end Go.Proofs.Ytomcekjhehceoaa
