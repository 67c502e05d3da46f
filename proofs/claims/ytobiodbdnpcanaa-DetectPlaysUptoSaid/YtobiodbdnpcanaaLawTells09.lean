/- PROVED: whoever adds up the changes that are told knows who is suspected (DetectTells): for arguments of bulk at most 1048576, the law returns true, and each argument reads behind the call as it read before. -/
import Derived.Test.YtobiodbdnpcanaaTells09
set_option linter.unusedVariables false
set_option linter.unusedSimpArgs false
namespace Go.Proofs.Ytobiodbdnpcanaa
open Go.RowKit Go.WideShapes Go.ChangeShapes Go.ChangeAt Go.Tk
theorem len4 {l : List Value} (h : l.length = 4) : ∃ a b c d, l = [a, b, c, d] := by
  match l, h with
  | [a, b, c, d], _ => exact ⟨a, b, c, d, rfl⟩
theorem cells_i64 : Try.prog.cellsOf 2 = 1 := by kernel_rfl
theorem cells_bool : Try.prog.cellsOf 4 = 1 := by kernel_rfl
theorem cells_op : Try.prog.cellsOf 43 = 4 := by kernel_rfl
theorem read_op {w : World} {N f : Nat} {cs : List Value} (h : Typed Try.prog w N f 43 cs) : ∃ o : OpD, (inI64 o.kind ∧ inI64 o.peer ∧ inI64 o.at_) ∧ cs = o.cells := by
  obtain ⟨f', hl, hf⟩ := typed_struct Try.underlying43 h
  obtain ⟨c0, c1, c2, c3, rfl⟩ := len4 (hl.trans cells_op)
  have h0 : Typed Try.prog w N f' 3 (([c0, c1, c2, c3].drop 0).take (Try.prog.cellsOf 3)) := hf 0 _ rfl
  have h1 : Typed Try.prog w N f' 3 (([c0, c1, c2, c3].drop 1).take (Try.prog.cellsOf 3)) := hf 1 _ rfl
  have h2 : Typed Try.prog w N f' 2 (([c0, c1, c2, c3].drop 2).take (Try.prog.cellsOf 2)) := hf 2 _ rfl
  have h3 : Typed Try.prog w N f' 4 (([c0, c1, c2, c3].drop 3).take (Try.prog.cellsOf 4)) := hf 3 _ rfl
  simp only [cells_int, cells_i64, cells_bool] at h0 h1 h2 h3
  obtain ⟨a, e0, ha⟩ := typed_int Try.underlying3 h0
  obtain ⟨b, e1, hb⟩ := typed_int Try.underlying3 h1
  obtain ⟨c, e2, hc⟩ := typed_int Try.underlying2 h2
  obtain ⟨d, e3⟩ := typed_bool Try.underlying4 h3
  simp at e0 e1 e2 e3
  exact ⟨⟨a, b, c, d⟩, ⟨bound64 ha, bound64 hb, bound64 hc⟩, by simp only [OpD.cells, e0, e1, e2, e3]⟩
set_option maxRecDepth 100000 in
theorem readDetectTells_33 : Try.prog.readableRec 33 = true ∧ 33 < Try.prog.types.size := ⟨by kernel_rfl, of_decide_eq_true (by kernel_rfl)⟩
set_option maxRecDepth 100000 in
theorem ownDetectTells : ownKnob Try.prog.godebug = none := by kernel_rfl
set_option maxRecDepth 100000 in
theorem laidOutDetectTells : laidOutB Try.prog = true := by kernel_rfl
set_option maxRecDepth 100000 in
theorem contractDetectTells (H : Type) (enc : TypeId × Value → H) (W : World) (base : Nat) (args : Array Value) (ds gs : List (DataW H)) (before : List MemPlace)
    (hval : ∀ (j : Nat) t v, Try.f5.params[j]? = some t → args[j]? = some v → Value.okWide Try.prog W .any base t v)
    (hW : DataW.Whole enc Try.prog Try.f5.params.toList Rows.detectTellsSpec.vars false W args.toList ds gs before) (hk : Rows.uptoSmall H (ds ++ gs) = true) :
    Calls Try.prog 5 args W fun e W' => ∃ v, e = .returned v ∧ Rows.detectTellsSpec.post enc Try.prog Try.f5 false true false false W args v W' := by
  have hfin : ∀ W', Below W.heap.size W W' → Rows.detectTellsSpec.post enc Try.prog Try.f5 false true false false W args (.bool true) W' := fun W' hb =>
    post_of_walk (n := 1) (boolT := 4) rfl (fun ds h => by match ds, h with | [a0], _ => exact ⟨rfl, rfl, rfl⟩) rfl rfl Try.underlying4 laidOutDetectTells (fun t ht => by rw [Try.params5] at ht; simp at ht; subst ht; exact readDetectTells_33) hW hb
  have hN : Rows.uptoBulkAll (ds ++ gs) ≤ 1048576 := of_decide_eq_true hk
  obtain ⟨p, q, hA, hV, rfl, hfz, hnd⟩ := hW
  rw [Try.params5] at hA hval
  obtain ⟨v0, vs0, d0, ds0, p0, q0, hargs, rfl, rfl, h0, r0⟩ := trodAll_cons hA
  obtain ⟨rfl, rfl, rfl⟩ := trodAll_nil r0
  obtain rfl : args = #[v0] := by cases args; simp_all
  simp only [List.cons_append, List.nil_append, Rows.uptoBulkAll] at hN
  obtain ⟨A0, len0, cap0, rfl⟩ := okWide_slice Try.underlying33 (hval 0 33 v0 rfl rfl)
  obtain ⟨f0, g0⟩ := h0
  have ty0 := typed_of_trod (N := 1048576) f0 _ _ _ g0 (by simp only; omega)
  obtain ⟨l, hl, hok⟩ := read_list (cs := OpD.cells) (ok := fun o : OpD => inI64 o.kind ∧ inI64 o.peer ∧ inI64 o.at_) Try.underlying33 cells_op (by omega) (fun f' l' h => read_op h) (Nat.le_refl _) ty0
  exact (tells_walk W _ l hl hok).mono fun e W' ⟨he, hy⟩ => ⟨_, he, hfin W' hy⟩

set_option maxRecDepth 100000 in
theorem liftedDetectTells (os : Os) (started : os.Started) (H : Type) (enc : TypeId × Value → H) (F : Stop.Interp) :
    ReturnsInHanded {} Try.checked os 5 .any ((Rows.OpenSpec.upto Rows.detectTellsSpec).pre6 enc Try.prog Try.f5 Rows.detectTellsUptoRow.domain false) (((Rows.OpenSpec.upto Rows.detectTellsSpec).at F).post enc Try.prog Try.f5 false true false false) := by
  refine returnsInHanded_of_cond (C := Try.checked) (s := Rows.OpenSpec.upto Rows.detectTellsSpec) (k := Rows.uptoSmall) rfl ownDetectTells started (by kernel_rfl) Try.func5
    (OpenSpec.witness (enc := enc) (C := Try.checked) (s := Rows.OpenSpec.upto Rows.detectTellsSpec) (k := Rows.uptoSmall) rfl false
      ⟨#[], #[.slice none 0 0], []⟩ 8 (by kernel_rfl) (by kernel_rfl) (by kernel_rfl)
      (x := ([.nil], [], [])) (by kernel_rfl) rfl (by kernel_rfl)) ?_
  intro W base args ds gs before hval hW _ hk _
  exact contractDetectTells H enc W base args ds gs before hval hW hk

theorem DetectTells_holds : Rows.DetectTellsUptoSaid :=
  OpenClaim.holds_of_cond 5 Try.f5 rfl rfl rfl rfl rfl rfl rfl ⟨rfl, rfl, rfl, rfl, rfl⟩ rfl rfl rfl rfl rfl (by kernel_rfl) Try.func5 (by kernel_rfl)
    (of_decide_eq_true (by kernel_rfl)) (by unfold Func.isWrapper; first | (rw [if_pos (by decide +kernel)]; kernel_rfl) | (rw [if_neg (by decide +kernel)]; exact ⟨rfl, rfl⟩))
    (fun os started H enc _ F => liftedDetectTells os started H enc F)
end Go.Proofs.Ytobiodbdnpcanaa
