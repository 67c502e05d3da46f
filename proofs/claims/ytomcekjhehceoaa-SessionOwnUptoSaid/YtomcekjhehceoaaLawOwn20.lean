/- PROVED: what a session puts is its own (SessionOwn): for arguments of bulk at most 1048576, the law returns true, and each argument reads behind the call as it read before. -/
import Derived.Test.YtomcekjhehceoaaOwnW20
set_option linter.unusedVariables false
set_option linter.unusedSimpArgs false
namespace Go.Proofs.Ytomcekjhehceoaa
open Go.RowKit Go.WideShapes Go.ChangeShapes Go.ChangeAt Go.Tk
theorem cells_own : Try.prog.cellsOf 54 = 4 := by kernel_rfl
theorem len4o {l : List Value} (h : l.length = 4) : ∃ a b c d, l = [a, b, c, d] := by
  match l, h with
  | [a, b, c, d], _ => exact ⟨a, b, c, d, rfl⟩
theorem read_own {w : World} {N f : Nat} {cs : List Value} (hN : N ≤ 1048576) (h : Typed Try.prog w N f 54 cs) : ∃ (A : Option Addr) (c : Nat) (data : List En) (k v o : ByteArray), Ents w (.slice A data.length c) data ∧ k.size ≤ 1048576 ∧ v.size ≤ 1048576 ∧ o.size ≤ 1048576 ∧ cs = [.slice A data.length c, .string k, .string v, .string o] := by
  obtain ⟨f', hl, hf⟩ := typed_struct Try.underlying54 h
  obtain ⟨c0, c1, c2, c3, rfl⟩ := len4o (hl.trans cells_own)
  have h0 : Typed Try.prog w N f' 33 (([c0, c1, c2, c3].drop 0).take (Try.prog.cellsOf 33)) := hf 0 _ rfl
  have h1 : Typed Try.prog w N f' 9 (([c0, c1, c2, c3].drop 1).take (Try.prog.cellsOf 9)) := hf 1 _ rfl
  have h2 : Typed Try.prog w N f' 9 (([c0, c1, c2, c3].drop 2).take (Try.prog.cellsOf 9)) := hf 2 _ rfl
  have h3 : Typed Try.prog w N f' 9 (([c0, c1, c2, c3].drop 3).take (Try.prog.cellsOf 9)) := hf 3 _ rfl
  simp only [cells_entries, cells_string] at h0 h1 h2 h3
  simp only [List.drop_succ_cons, List.drop_zero, List.take_succ_cons, List.take_zero] at h0 h1 h2 h3
  obtain ⟨data, hd⟩ := read_ents hN h0
  obtain ⟨s1, e1, k1⟩ := typed_string Try.underlying9 h1
  obtain ⟨s2, e2, k2⟩ := typed_string Try.underlying9 h2
  obtain ⟨s3, e3, k3⟩ := typed_string Try.underlying9 h3
  obtain ⟨A, c, hv, _⟩ := hd.2.2
  simp only [List.cons.injEq, and_true] at e1 e2 e3
  subst hv e1 e2 e3
  exact ⟨A, c, data, s1, s2, s3, hd, Nat.le_trans k1 hN, Nat.le_trans k2 hN, Nat.le_trans k3 hN, rfl⟩
set_option maxRecDepth 100000 in
theorem readSessionOwn_54 : Try.prog.readableRec 54 = true ∧ 54 < Try.prog.types.size := ⟨by kernel_rfl, of_decide_eq_true (by kernel_rfl)⟩
set_option maxRecDepth 100000 in
theorem ownSessionOwn : ownKnob Try.prog.godebug = none := by kernel_rfl
set_option maxRecDepth 100000 in
theorem laidOutSessionOwn : laidOutB Try.prog = true := by kernel_rfl
set_option maxRecDepth 100000 in
theorem contractSessionOwn (H : Type) (enc : TypeId × Value → H) (W : World) (base : Nat) (args : Array Value) (ds gs : List (DataW H)) (before : List MemPlace)
    (hval : ∀ (j : Nat) t v, Try.f4.params[j]? = some t → args[j]? = some v → Value.okWide Try.prog W .any base t v)
    (hW : DataW.Whole enc Try.prog Try.f4.params.toList Rows.sessionOwnSpec.vars false W args.toList ds gs before) (hk : Rows.uptoSmall H (ds ++ gs) = true) :
    Calls Try.prog 4 args W fun e W' => ∃ v, e = .returned v ∧ Rows.sessionOwnSpec.post enc Try.prog Try.f4 false true false false W args v W' := by
  have hfin : ∀ W', Below W.heap.size W W' → Rows.sessionOwnSpec.post enc Try.prog Try.f4 false true false false W args (.bool true) W' := fun W' hb =>
    post_of_walk (n := 1) (boolT := 4) rfl (fun ds h => by match ds, h with | [a0], _ => exact ⟨rfl, rfl, rfl⟩) rfl rfl Try.underlying4 laidOutSessionOwn (fun t ht => by rw [Try.params4] at ht; simp at ht; subst ht; exact readSessionOwn_54) hW hb
  have hN : Rows.uptoBulkAll (ds ++ gs) ≤ 1048576 := of_decide_eq_true hk
  obtain ⟨p, q, hA, hV, rfl, hfz, hnd⟩ := hW
  rw [Try.params4] at hA hval
  obtain ⟨v0, vs0, d0, ds0, p0, q0, hargs, rfl, rfl, h0, r0⟩ := trodAll_cons hA
  obtain ⟨rfl, rfl, rfl⟩ := trodAll_nil r0
  obtain rfl : args = #[v0] := by cases args; simp_all
  simp only [List.cons_append, List.nil_append, Rows.uptoBulkAll] at hN
  obtain ⟨cs0, rfl, hs0⟩ := okWide_struct Try.underlying54 (hval 0 54 v0 rfl rfl)
  obtain ⟨f0, g0⟩ := h0
  have ty0 := typed_of_trod (N := 1048576) f0 _ _ _ g0 (by simp only; omega)
  obtain ⟨A, c, data, k, v, o, hd, hk, hv, ho, hcs⟩ := read_own (Nat.le_refl _) ty0
  have e1 : Value.agg cs0 = .agg #[.slice A data.length c, .string k, .string v, .string o] := by
    congr 1
    apply Array.ext'
    simpa [Value.cells] using hcs
  rw [e1] at hfin ⊢
  exact (own_walk W A c data k v o hd hk hv ho).mono fun e W' ⟨he, hy⟩ => ⟨_, he, hfin W' hy⟩

set_option maxRecDepth 100000 in
theorem liftedSessionOwn (os : Os) (started : os.Started) (H : Type) (enc : TypeId × Value → H) (F : Stop.Interp) :
    ReturnsInHanded {} Try.checked os 4 .any ((Rows.OpenSpec.upto Rows.sessionOwnSpec).pre6 enc Try.prog Try.f4 Rows.sessionOwnUptoRow.domain false) (((Rows.OpenSpec.upto Rows.sessionOwnSpec).at F).post enc Try.prog Try.f4 false true false false) := by
  refine returnsInHanded_of_cond (C := Try.checked) (s := Rows.OpenSpec.upto Rows.sessionOwnSpec) (k := Rows.uptoSmall) rfl ownSessionOwn started (by kernel_rfl) Try.func4
    (OpenSpec.witness (enc := enc) (C := Try.checked) (s := Rows.OpenSpec.upto Rows.sessionOwnSpec) (k := Rows.uptoSmall) rfl false
      ⟨#[], #[.agg #[.slice none 0 0, .string .empty, .string .empty, .string .empty]], []⟩ 8 (by kernel_rfl) (by kernel_rfl) (by kernel_rfl)
      (x := ([.agg [.nil, .lit (.string []), .lit (.string []), .lit (.string [])]], [], [])) (by kernel_rfl) rfl (by kernel_rfl)) ?_
  intro W base args ds gs before hval hW _ hk _
  exact contractSessionOwn H enc W base args ds gs before hval hW hk

theorem SessionOwn_holds : Rows.SessionOwnUptoSaid :=
  OpenClaim.holds_of_cond 4 Try.f4 rfl rfl rfl rfl rfl rfl rfl ⟨rfl, rfl, rfl, rfl, rfl⟩ rfl rfl rfl rfl rfl (by kernel_rfl) Try.func4 (by kernel_rfl)
    (of_decide_eq_true (by kernel_rfl)) (by unfold Func.isWrapper; first | (rw [if_pos (by decide +kernel)]; kernel_rfl) | (rw [if_neg (by decide +kernel)]; exact ⟨rfl, rfl⟩))
    (fun os started H enc _ F => liftedSessionOwn os started H enc F)
end Go.Proofs.Ytomcekjhehceoaa
