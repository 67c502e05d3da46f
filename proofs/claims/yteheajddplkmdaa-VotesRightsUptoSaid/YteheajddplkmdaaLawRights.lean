/- PROVED: which transactions may be, and which votes count, is what the document says, for every transaction and every pair of numbers (VotesRights): for arguments of bulk at most 1048576, the law returns true, and each argument reads behind the call as it read before. -/
import Derived.Test.YteheajddplkmdaaRead18
import Derived.Test.YteheajddplkmdaaRights
import Derived.Test.YteheajddplkmdaaAlive
set_option linter.unusedVariables false
set_option linter.unusedSimpArgs false
namespace Go.Proofs.Yteheajddplkmdaa
open Go.RowKit Go.WideShapes Go.ChangeShapes Go.ChangeAt Go.Tk

set_option maxRecDepth 100000 in
set_option maxHeartbeats 1000000 in
theorem walkRights (t : TxR) (i k : Int) (w : World) (hi : Items w t.data t.items) (hw : WfTx t) :
    Calls Try.prog 7 #[t.val, .int .i64 i, .int .i64 k] w (Gives w (.bool true)) := by
  have C1 := Lib.hid (fun W (h : Items W t.data t.items) => votes_Right t W h hw)
  have C2 := Lib.hid (fun W (h : Items W t.data t.items) => ref18_Right t W h)
  have C3 := Lib.hid (fun W (h : Items W t.data t.items) => votes_Counts t i k W h hw)
  have C4 := Lib.hid (fun W (h : Items W t.data t.items) => ref18_Counts t i k W h)
  generalize countsOf t.right t.items i k = cv at *
  generalize t.right = rt at *
  obtain ⟨id, client, m0, m1, m2, data, l⟩ := t
  simp only at hi C1 C2 C3 C4
  unfold TxR.val at *
  simp only at C1 C2 C3 C4 ⊢
  have HI := Lib.hid hi
  clear hw
  obtain ⟨hl, A, c, rfl, hc⟩ := hi
  clear hc
  go_enter Try.func7, Try.ntmps7
  go_wp2_with fail
  refine wp_region_ext (by kernel_rfl) (by kernel_rfl) ?_
  repeat (go_big_quiet_step ((first | (go_at_call 11; exact quiet_pure (law_alive _)) | (go_at_call 13; exact quiet_pure (C1.out _ (HI.out.alloc _).ext)) | (go_at_call 14; exact quiet_pure (C2.out _ (HI.out.alloc _).ext)) | (go_at_call 15; exact quiet_pure (C3.out _ (HI.out.alloc _).ext)) | (go_at_call 16; exact quiet_pure (C4.out _ (HI.out.alloc _).ext)))))
  refine wpQuiet_nil ?_
  intro _ hq
  obtain ⟨yq, hq⟩ := hq
  subst hq
  go_wp2
  go_ret
  exact .mk rfl (below_of_ext ((Below.refl _ _).alloc (Nat.le_refl _) _) (by (try simp only [World.size_alloc, size_ext, World.size_setCell]); omega))

theorem readVotesRights_26 : Try.prog.readableRec 26 = true ∧ 26 < Try.prog.types.size := ⟨by kernel_rfl, of_decide_eq_true (by kernel_rfl)⟩
theorem readVotesRights_3 : Try.prog.readableRec 3 = true ∧ 3 < Try.prog.types.size := ⟨by kernel_rfl, of_decide_eq_true (by kernel_rfl)⟩
theorem ownVotesRights : ownKnob Try.prog.godebug = none := by kernel_rfl
theorem laidOutVotesRights : laidOutB Try.prog = true := by kernel_rfl
theorem contractVotesRights (H : Type) (enc : TypeId × Value → H) (W : World) (base : Nat) (args : Array Value) (ds gs : List (DataW H)) (before : List MemPlace)
    (hval : ∀ (j : Nat) t v, Try.f7.params[j]? = some t → args[j]? = some v → Value.okWide Try.prog W .any base t v)
    (hW : DataW.Whole enc Try.prog Try.f7.params.toList Rows.votesRightsSpec.vars false W args.toList ds gs before) (hk : Rows.uptoSmall H (ds ++ gs) = true) :
    Calls Try.prog 7 args W fun e W' => ∃ v, e = .returned v ∧ Rows.votesRightsSpec.post enc Try.prog Try.f7 false true false false W args v W' := by
  have hfin : ∀ W', Below W.heap.size W W' → Rows.votesRightsSpec.post enc Try.prog Try.f7 false true false false W args (.bool true) W' := fun W' hb =>
    post_of_walk (n := 3) (boolT := 4) rfl (fun ds h => by match ds, h with | [a0, a1, a2], _ => exact ⟨rfl, rfl, rfl⟩) rfl rfl Try.underlying4 laidOutVotesRights (fun t ht => by rw [Try.params7] at ht; simp at ht; rcases ht with rfl | rfl; exact readVotesRights_26; exact readVotesRights_3) hW hb
  have hN : Rows.uptoBulkAll (ds ++ gs) ≤ 1048576 := of_decide_eq_true hk
  obtain ⟨p, q, hA, hV, rfl, hfz, hnd⟩ := hW
  rw [Try.params7] at hA hval
  obtain ⟨v0, vs0, d0, ds0, p0, q0, hargs, rfl, rfl, h0, r0⟩ := trodAll_cons hA
  obtain ⟨v1, vs1, d1, ds1, p1, q1, rfl, rfl, rfl, h1, r1⟩ := trodAll_cons r0
  obtain ⟨v2, vs2, d2, ds2, p2, q2, rfl, rfl, rfl, h2, r2⟩ := trodAll_cons r1
  obtain ⟨rfl, rfl, rfl⟩ := trodAll_nil r2
  obtain rfl : args = #[v0, v1, v2] := by cases args; simp_all
  simp only [List.cons_append, List.nil_append, Rows.uptoBulkAll] at hN
  obtain ⟨cs0, rfl, hs0⟩ := okWide_struct Try.underlying26 (hval 0 26 v0 rfl rfl)
  obtain ⟨f0, g0⟩ := h0
  have ty0 := typed_of_trod (N := 1048576) f0 _ _ _ g0 (by simp only; omega)
  obtain ⟨x1, rfl⟩ := okWide_int Try.underlying3 (hval 1 3 v1 rfl rfl)
  obtain ⟨f1, g1⟩ := h1
  have ty1 := typed_of_trod (N := 1048576) f1 _ _ _ g1 (by simp only; omega)
  obtain ⟨x2, rfl⟩ := okWide_int Try.underlying3 (hval 2 3 v2 rfl rfl)
  obtain ⟨f2, g2⟩ := h2
  have ty2 := typed_of_trod (N := 1048576) f2 _ _ _ g2 (by simp only; omega)
  obtain ⟨t, ht, hi, hw⟩ := read_tx (Nat.le_refl _) ty0
  have e0 : Value.agg cs0 = t.val := by
    unfold TxR.val
    congr 1
    apply Array.ext'
    simpa [Value.cells] using ht
  rw [e0] at hfin ⊢
  exact (walkRights t _ _ W hi hw).mono fun e W' ⟨he, y, hy⟩ => ⟨_, he, hfin W' (by rw [hy]; exact below_ext)⟩

set_option maxRecDepth 100000 in
theorem liftedVotesRights (os : Os) (started : os.Started) (H : Type) (enc : TypeId × Value → H) (F : Stop.Interp) :
    ReturnsInHanded {} Try.checked os 7 .any ((Rows.OpenSpec.upto Rows.votesRightsSpec).pre6 enc Try.prog Try.f7 Rows.votesRightsUptoRow.domain false) (((Rows.OpenSpec.upto Rows.votesRightsSpec).at F).post enc Try.prog Try.f7 false true false false) := by
  refine returnsInHanded_of_cond (C := Try.checked) (s := Rows.OpenSpec.upto Rows.votesRightsSpec) (k := Rows.uptoSmall) rfl ownVotesRights started (by kernel_rfl) Try.func7
    (OpenSpec.witness (enc := enc) (C := Try.checked) (s := Rows.OpenSpec.upto Rows.votesRightsSpec) (k := Rows.uptoSmall) rfl false
      ⟨#[], #[.agg #[.int .u64 0, .int .i64 0, .int .i64 0, .int .i64 0, .int .i64 0, .slice none 0 0], .int .i64 0, .int .i64 0], []⟩ 8 (by kernel_rfl) (by kernel_rfl) (by kernel_rfl)
      (x := ([.agg [.lit (.int .u64 0), .lit (.int .i64 0), .agg [.lit (.int .i64 0), .lit (.int .i64 0), .lit (.int .i64 0)], .nil], .lit (.int .i64 0), .lit (.int .i64 0)], [], [])) (by kernel_rfl) rfl (by kernel_rfl)) ?_
  intro W base args ds gs before hval hW _ hk _
  exact contractVotesRights H enc W base args ds gs before hval hW hk

theorem VotesRights_holds : Rows.VotesRightsUptoSaid :=
  OpenClaim.holds_of_cond 7 Try.f7 rfl rfl rfl rfl rfl rfl rfl ⟨rfl, rfl, rfl, rfl, rfl⟩ rfl rfl rfl rfl rfl (by kernel_rfl) Try.func7 (by kernel_rfl)
    (of_decide_eq_true (by kernel_rfl)) (by unfold Func.isWrapper; first | (rw [if_pos (by decide +kernel)]; kernel_rfl) | (rw [if_neg (by decide +kernel)]; exact ⟨rfl, rfl⟩))
    (fun os started H enc _ F => liftedVotesRights os started H enc F)
end Go.Proofs.Yteheajddplkmdaa
