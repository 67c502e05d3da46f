/- PROVED: whatever the transaction and the votes on it, what they come to is what the document says (VotesDecide): for arguments of bulk at most 1048576, the law returns true, and each argument reads behind the call as it read before. -/
import Derived.Test.YteheajddplkmdaaRead18
import Derived.Test.YteheajddplkmdaaDecideRef
import Derived.Test.YteheajddplkmdaaAlive
set_option linter.unusedVariables false
set_option linter.unusedSimpArgs false
namespace Go.Proofs.Yteheajddplkmdaa
open Go.RowKit Go.WideShapes Go.ChangeShapes Go.ChangeAt Go.Tk

set_option maxRecDepth 100000 in
set_option maxHeartbeats 1000000 in
theorem walkDecide (t : TxR) (vv : Value) (n : Nat) (fr : Nat → Nat → Int) (w : World) (hi : Items w t.data t.items) (hw : WfTx t) (hv : Votes w vv n fr) :
    Calls Try.prog 3 #[t.val, vv] w (Gives w (.bool true)) := by
  have C1 := Lib.hid (fun W (h : Items W t.data t.items) (h' : Votes W vv n fr) => votes_Decide t vv n fr W h hw h')
  have C2 := Lib.hid (fun W (h : Items W t.data t.items) (h' : Votes W vv n fr) => ref18_Decide t vv n fr W h h')
  generalize decide18 t.right n t.items.length fr (incsOf t.items) = d at *
  obtain ⟨id, client, m0, m1, m2, data, l⟩ := t
  simp only at hi C1 C2
  unfold TxR.val at *
  simp only at C1 C2 ⊢
  have HI := Lib.hid hi
  have HV := Lib.hid hv
  clear hw
  obtain ⟨hl, A, c, rfl, hc⟩ := hi
  obtain ⟨hn, B, e, rfl, hvc⟩ := hv
  clear hc hvc
  obtain ⟨d1, d2⟩ := d
  go_enter Try.func3, Try.ntmps3
  go_wp2_with fail
  refine (C1.out _ (HI.out.alloc _) (HV.out.alloc _)).mono ?_
  rintro e w1 ⟨rfl, y, rfl⟩
  go_wp2_with fail
  refine (C2.out _ (HI.out.alloc _).ext (HV.out.alloc _).ext).mono ?_
  rintro e w1 ⟨rfl, z, rfl⟩
  go_wp2_with fail
  refine (law_alive _).mono ?_
  rintro e w1 ⟨rfl, z2, rfl⟩
  go_wp2_with fail
  go_ret
  exact .mk rfl (by simp only [ext_ext]; exact below_of_ext ((Below.refl _ _).alloc (Nat.le_refl _) _) (by (try simp only [World.size_alloc, size_ext, World.size_setCell]); omega))

theorem own : ownKnob Try.prog.godebug = none := by kernel_rfl
theorem laidOut : laidOutB Try.prog = true := by kernel_rfl
theorem readTx : Try.prog.readableRec 26 = true ∧ 26 < Try.prog.types.size := ⟨by kernel_rfl, of_decide_eq_true (by kernel_rfl)⟩
theorem readVotes : Try.prog.readableRec 27 = true ∧ 27 < Try.prog.types.size := ⟨by kernel_rfl, of_decide_eq_true (by kernel_rfl)⟩
theorem contractDecide (H : Type) (enc : TypeId × Value → H) (W : World) (base : Nat) (args : Array Value) (ds gs : List (DataW H)) (before : List MemPlace)
    (hval : ∀ (j : Nat) t v, Try.f3.params[j]? = some t → args[j]? = some v → Value.okWide Try.prog W .any base t v)
    (hW : DataW.Whole enc Try.prog Try.f3.params.toList Rows.votesDecideSpec.vars false W args.toList ds gs before) (hk : Rows.uptoSmall H (ds ++ gs) = true) :
    Calls Try.prog 3 args W fun e W' => ∃ v, e = .returned v ∧ Rows.votesDecideSpec.post enc Try.prog Try.f3 false true false false W args v W' := by
  have hfin : ∀ W', Below W.heap.size W W' → Rows.votesDecideSpec.post enc Try.prog Try.f3 false true false false W args (.bool true) W' := fun W' hb =>
    post_of_walk (n := 2) (boolT := 4) rfl (fun ds h => by match ds, h with | [a, b], _ => exact ⟨rfl, rfl, rfl⟩) rfl rfl Try.underlying4 laidOut (fun t ht => by rw [Try.params3] at ht; simp at ht; rcases ht with rfl | rfl; exact readTx; exact readVotes) hW hb
  have hN : Rows.uptoBulkAll (ds ++ gs) ≤ 1048576 := of_decide_eq_true hk
  obtain ⟨p, q, hA, hV, rfl, hfz, hnd⟩ := hW
  rw [Try.params3] at hA hval
  obtain ⟨v0, vs0, d0, ds0, p0, q0, hargs, rfl, rfl, h0, r0⟩ := trodAll_cons hA
  obtain ⟨v1, vs1, d1, ds1, p1, q1, rfl, rfl, rfl, h1, r1⟩ := trodAll_cons r0
  obtain ⟨rfl, rfl, rfl⟩ := trodAll_nil r1
  obtain rfl : args = #[v0, v1] := by cases args; simp_all
  simp only [List.cons_append, List.nil_append, Rows.uptoBulkAll] at hN
  obtain ⟨cs0, rfl, hs0⟩ := okWide_struct Try.underlying26 (hval 0 26 v0 rfl rfl)
  obtain ⟨a1, len1, cap1, rfl⟩ := okWide_slice Try.underlying27 (hval 1 27 v1 rfl rfl)
  obtain ⟨f0, g0⟩ := h0
  obtain ⟨f1, g1⟩ := h1
  obtain ⟨t, ht, hi, hw⟩ := read_tx (Nat.le_refl _) (typed_of_trod (N := 1048576) f0 _ _ _ g0 (by simp only; omega))
  obtain ⟨n, fr, hv⟩ := read_votes (Nat.le_refl _) (typed_of_trod (N := 1048576) f1 _ _ _ g1 (by simp only; omega))
  have e0 : Value.agg cs0 = t.val := by
    unfold TxR.val
    congr 1
    apply Array.ext'
    simpa [Value.cells] using ht
  rw [e0] at hfin ⊢
  exact (walkDecide t _ n fr W hi hw hv).mono fun e W' ⟨he, y, hy⟩ => ⟨_, he, hfin W' (by rw [hy]; exact below_ext)⟩

set_option maxRecDepth 100000 in
theorem liftedDecide (os : Os) (started : os.Started) (H : Type) (enc : TypeId × Value → H) (F : Stop.Interp) :
    ReturnsInHanded {} Try.checked os 3 .any ((Rows.OpenSpec.upto Rows.votesDecideSpec).pre6 enc Try.prog Try.f3 Rows.votesDecideUptoRow.domain false) (((Rows.OpenSpec.upto Rows.votesDecideSpec).at F).post enc Try.prog Try.f3 false true false false) := by
  refine returnsInHanded_of_cond (C := Try.checked) (s := Rows.OpenSpec.upto Rows.votesDecideSpec) (k := Rows.uptoSmall) rfl own started (by kernel_rfl) Try.func3
    (OpenSpec.witness (enc := enc) (C := Try.checked) (s := Rows.OpenSpec.upto Rows.votesDecideSpec) (k := Rows.uptoSmall) rfl false
      ⟨#[], #[.agg #[.int .u64 0, .int .i64 0, .int .i64 0, .int .i64 0, .int .i64 0, .slice none 0 0], .slice none 0 0], []⟩ 8 (by kernel_rfl) (by kernel_rfl) (by kernel_rfl)
      (x := ([.agg [.lit (.int .u64 0), .lit (.int .i64 0), .agg [.lit (.int .i64 0), .lit (.int .i64 0), .lit (.int .i64 0)], .nil], .nil], [], [])) (by kernel_rfl) rfl (by kernel_rfl)) ?_
  intro W base args ds gs before hval hW _ hk _
  exact contractDecide H enc W base args ds gs before hval hW hk

theorem VotesDecide_holds : Rows.VotesDecideUptoSaid :=
  OpenClaim.holds_of_cond 3 Try.f3 rfl rfl rfl rfl rfl rfl rfl ⟨rfl, rfl, rfl, rfl, rfl⟩ rfl rfl rfl rfl rfl (by kernel_rfl) Try.func3 (by kernel_rfl)
    (of_decide_eq_true (by kernel_rfl)) (by unfold Func.isWrapper; first | (rw [if_pos (by decide +kernel)]; kernel_rfl) | (rw [if_neg (by decide +kernel)]; exact ⟨rfl, rfl⟩))
    (fun os started H enc _ F => liftedDecide os started H enc F)
end Go.Proofs.Yteheajddplkmdaa
