/- PROVED: packets are taken in the order in which they were put (InboxPlays): for arguments of bulk at most 1048576, the law returns true, and each argument reads behind the call as it read before. -/
import Derived.Test.YtojpcfjlenjfbaaPlays08
set_option linter.unusedVariables false
set_option linter.unusedSimpArgs false
namespace Go.Proofs.Ytojpcfjlenjfbaa
open Go.RowKit Go.WideShapes Go.ChangeShapes Go.ChangeAt Go.Tk
theorem bound8' {n : Int} (h : (Lit.int .u8 n).wf = true) : 0 ≤ n ∧ n ≤ 255 := by
  simp only [Lit.wf, IntKind.min, IntKind.max, IntKind.signed, IntKind.bits, Bool.and_eq_true, decide_eq_true_eq] at h
  simp at h
  omega
theorem bound64' {n : Int} (h : (Lit.int .i64 n).wf = true) : -9223372036854775808 ≤ n ∧ n ≤ 9223372036854775807 := by
  simp only [Lit.wf, IntKind.min, IntKind.max, IntKind.signed, IntKind.bits, Bool.and_eq_true, decide_eq_true_eq] at h
  simp at h
  omega
theorem cells_u8' : Try.prog.cellsOf 5 = 1 := by kernel_rfl
set_option maxRecDepth 100000 in
/-- an argument of bytes -/
theorem read_bytes {w : World} {N f : Nat} {v : Value} (h : Typed Try.prog w N f 32 [v]) : ∃ A c l, v = .slice A (l : List UInt8).length c ∧ l.length ≤ c ∧ l.length ≤ N ∧ Rd w A l ∧ (A = none → c = 0) := by
  obtain ⟨A, len, cap, f', hv, hlen, hi⟩ := typed_slice Try.underlying32 (by rw [cells_u8']; omega) h
  have hcap : len ≤ cap ∧ (A = none → cap = 0) := by
    cases f with
    | zero => exact h.elim
    | succ f =>
      unfold Typed at h
      rw [Try.underlying32] at h
      rcases h with h | ⟨a, len', cap', h, h2, _⟩
      · rw [h] at hv
        simp at hv
        obtain ⟨rfl, rfl, rfl⟩ := hv
        exact ⟨Nat.le_refl _, fun _ => rfl⟩
      · rw [h] at hv
        simp at hv
        obtain ⟨rfl, rfl, rfl⟩ := hv
        exact ⟨h2, fun x => by simp at x⟩
  rw [cells_u8'] at hi
  have hall : ∀ i, i < len → ∃ x : UInt8, ∃ b off, A = some ⟨b, off, none⟩ ∧ b < w.heap.size ∧ w.cell? ⟨b, off + i, none⟩ = some (.int .u8 (x.toNat : Int)) := by
    intro i hlt
    obtain ⟨b, off, cs', hA, hb, hcl, hcc, hty⟩ := hi i hlt
    obtain ⟨n, rfl, hn⟩ := typed_int Try.underlying5 hty
    have hn2 := bound8' hn
    obtain ⟨k, rfl⟩ := Int.eq_ofNat_of_zero_le hn2.1
    refine ⟨UInt8.ofNat k, b, off, hA, hb, ?_⟩
    have := hcc 0 _ rfl
    rw [Nat.mul_one, Nat.add_zero] at this
    rw [this]
    have hk : k % 256 = k := by omega
    simp [UInt8.toNat_ofNat', hk]
  obtain ⟨l, hl, hr⟩ := list_of_all hall
  subst hl
  exact ⟨A, cap, l, by simpa using hv, hcap.1, hlen, ⟨fun i x hx => hr i x hx⟩, hcap.2⟩
theorem cells_op : Try.prog.cellsOf 36 = 5 := by kernel_rfl
theorem cells_pk : Try.prog.cellsOf 34 = 4 := by kernel_rfl
theorem cells_i : Try.prog.cellsOf 3 = 1 := by kernel_rfl
theorem cells_u : Try.prog.cellsOf 31 = 1 := by kernel_rfl
theorem cells_b : Try.prog.cellsOf 32 = 1 := by kernel_rfl
theorem len5 {l : List Value} (h : l.length = 5) : ∃ a b c d e, l = [a, b, c, d, e] := by
  match l, h with
  | [a, b, c, d, e], _ => exact ⟨a, b, c, d, e, rfl⟩
theorem len4' {l : List Value} (h : l.length = 4) : ∃ a b c d, l = [a, b, c, d] := by
  match l, h with
  | [a, b, c, d], _ => exact ⟨a, b, c, d, rfl⟩
theorem read_op {w : World} {f : Nat} {cs : List Value} (h : Typed Try.prog w 1048576 f 36 cs) : ∃ o : OpP, o.ok w ∧ cs = o.cells := by
  obtain ⟨f', hl, hf⟩ := typed_struct Try.underlying36 h
  obtain ⟨c0, c1, c2, c3, c4, rfl⟩ := len5 (hl.trans cells_op)
  have h0 : Typed Try.prog w 1048576 f' 3 (([c0, c1, c2, c3, c4].drop 0).take (Try.prog.cellsOf 3)) := hf 0 _ rfl
  have h1 : Typed Try.prog w 1048576 f' 34 (([c0, c1, c2, c3, c4].drop 1).take (Try.prog.cellsOf 34)) := hf 1 _ rfl
  simp only [cells_i, cells_pk] at h0 h1
  obtain ⟨k, e0, _⟩ := typed_int Try.underlying3 h0
  obtain ⟨f2, hl2, hf2⟩ := typed_struct Try.underlying34 h1
  have g0 : Typed Try.prog w 1048576 f2 31 (([c1, c2, c3, c4].drop 0).take (Try.prog.cellsOf 31)) := hf2 0 _ rfl
  have g1 : Typed Try.prog w 1048576 f2 3 (([c1, c2, c3, c4].drop 1).take (Try.prog.cellsOf 3)) := hf2 1 _ rfl
  have g2 : Typed Try.prog w 1048576 f2 3 (([c1, c2, c3, c4].drop 2).take (Try.prog.cellsOf 3)) := hf2 2 _ rfl
  have g3 : Typed Try.prog w 1048576 f2 32 (([c1, c2, c3, c4].drop 3).take (Try.prog.cellsOf 32)) := hf2 3 _ rfl
  simp only [cells_i, cells_u, cells_b] at g0 g1 g2 g3
  obtain ⟨a, e1, _⟩ := typed_int Try.underlying31 g0
  obtain ⟨b, e2, _⟩ := typed_int Try.underlying3 g1
  obtain ⟨c, e3, _⟩ := typed_int Try.underlying3 g2
  obtain ⟨A, d, l, e4, _, hN, hR, _⟩ := read_bytes g3
  simp at e0 e1 e2 e3
  exact ⟨⟨k, ⟨a, b, c, A, d, l⟩⟩, ⟨hR, hN⟩, by simp only [OpP.cells, e0, e1, e2, e3, e4]⟩
set_option maxRecDepth 100000 in
theorem readInboxPlays_3 : Try.prog.readableRec 3 = true ∧ 3 < Try.prog.types.size := ⟨by kernel_rfl, of_decide_eq_true (by kernel_rfl)⟩
set_option maxRecDepth 100000 in
theorem readInboxPlays_25 : Try.prog.readableRec 25 = true ∧ 25 < Try.prog.types.size := ⟨by kernel_rfl, of_decide_eq_true (by kernel_rfl)⟩
set_option maxRecDepth 100000 in
theorem ownInboxPlays : ownKnob Try.prog.godebug = none := by kernel_rfl
set_option maxRecDepth 100000 in
theorem laidOutInboxPlays : laidOutB Try.prog = true := by kernel_rfl
set_option maxRecDepth 100000 in
theorem contractInboxPlays (H : Type) (enc : TypeId × Value → H) (W : World) (base : Nat) (args : Array Value) (ds gs : List (DataW H)) (before : List MemPlace)
    (hval : ∀ (j : Nat) t v, Try.f4.params[j]? = some t → args[j]? = some v → Value.okWide Try.prog W .any base t v)
    (hW : DataW.Whole enc Try.prog Try.f4.params.toList Rows.inboxPlaysSpec.vars false W args.toList ds gs before) (hk : Rows.uptoSmall H (ds ++ gs) = true) :
    Calls Try.prog 4 args W fun e W' => ∃ v, e = .returned v ∧ Rows.inboxPlaysSpec.post enc Try.prog Try.f4 false true false false W args v W' := by
  have hfin : ∀ W', Below W.heap.size W W' → Rows.inboxPlaysSpec.post enc Try.prog Try.f4 false true false false W args (.bool true) W' := fun W' hb =>
    post_of_walk (n := 2) (boolT := 4) rfl (fun ds h => by match ds, h with | [a0, a1], _ => exact ⟨rfl, rfl, rfl⟩) rfl rfl Try.underlying4 laidOutInboxPlays (fun t ht => by rw [Try.params4] at ht; simp at ht; rcases ht with rfl | rfl; exact readInboxPlays_3; exact readInboxPlays_25) hW hb
  have hN : Rows.uptoBulkAll (ds ++ gs) ≤ 1048576 := of_decide_eq_true hk
  obtain ⟨p, q, hA, hV, rfl, hfz, hnd⟩ := hW
  rw [Try.params4] at hA hval
  obtain ⟨v0, vs0, d0, ds0, p0, q0, hargs, rfl, rfl, h0, r0⟩ := trodAll_cons hA
  obtain ⟨v1, vs1, d1, ds1, p1, q1, rfl, rfl, rfl, h1, r1⟩ := trodAll_cons r0
  obtain ⟨rfl, rfl, rfl⟩ := trodAll_nil r1
  obtain rfl : args = #[v0, v1] := by cases args; simp_all
  simp only [List.cons_append, List.nil_append, Rows.uptoBulkAll] at hN
  obtain ⟨x0, rfl⟩ := okWide_int Try.underlying3 (hval 0 3 v0 rfl rfl)
  obtain ⟨f0, g0⟩ := h0
  have ty0 := typed_of_trod (N := 1048576) f0 _ _ _ g0 (by simp only; omega)
  obtain ⟨A1, len1, cap1, rfl⟩ := okWide_slice Try.underlying25 (hval 1 25 v1 rfl rfl)
  obtain ⟨f1, g1⟩ := h1
  have ty1 := typed_of_trod (N := 1048576) f1 _ _ _ g1 (by simp only; omega)
  obtain ⟨c, hc1, hc2⟩ := typed_int Try.underlying3 ty0
  obtain rfl : x0 = c := by simpa [Value.cells] using hc1
  obtain ⟨l, hl, hok⟩ := read_list (cs := OpP.cells) (ok := fun o => o.ok W) Try.underlying25 cells_op (by omega) (fun f' l' h => read_op h) (Nat.le_refl _) ty1
  exact (plays_walk W x0 _ l hl hok).mono fun e W' ⟨he, hy⟩ => ⟨_, he, hfin W' hy⟩

set_option maxRecDepth 100000 in
theorem liftedInboxPlays (os : Os) (started : os.Started) (H : Type) (enc : TypeId × Value → H) (F : Stop.Interp) :
    ReturnsInHanded {} Try.checked os 4 .any ((Rows.OpenSpec.upto Rows.inboxPlaysSpec).pre6 enc Try.prog Try.f4 Rows.inboxPlaysUptoRow.domain false) (((Rows.OpenSpec.upto Rows.inboxPlaysSpec).at F).post enc Try.prog Try.f4 false true false false) := by
  refine returnsInHanded_of_cond (C := Try.checked) (s := Rows.OpenSpec.upto Rows.inboxPlaysSpec) (k := Rows.uptoSmall) rfl ownInboxPlays started (by kernel_rfl) Try.func4
    (OpenSpec.witness (enc := enc) (C := Try.checked) (s := Rows.OpenSpec.upto Rows.inboxPlaysSpec) (k := Rows.uptoSmall) rfl false
      ⟨#[], #[.int .i64 0, .slice none 0 0], []⟩ 8 (by kernel_rfl) (by kernel_rfl) (by kernel_rfl)
      (x := ([.lit (.int .i64 0), .nil], [], [])) (by kernel_rfl) rfl (by kernel_rfl)) ?_
  intro W base args ds gs before hval hW _ hk _
  exact contractInboxPlays H enc W base args ds gs before hval hW hk

theorem InboxPlays_holds : Rows.InboxPlaysUptoSaid :=
  OpenClaim.holds_of_cond 4 Try.f4 rfl rfl rfl rfl rfl rfl rfl ⟨rfl, rfl, rfl, rfl, rfl⟩ rfl rfl rfl rfl rfl (by kernel_rfl) Try.func4 (by kernel_rfl)
    (of_decide_eq_true (by kernel_rfl)) (by unfold Func.isWrapper; first | (rw [if_pos (by decide +kernel)]; kernel_rfl) | (rw [if_neg (by decide +kernel)]; exact ⟨rfl, rfl⟩))
    (fun os started H enc _ F => liftedInboxPlays os started H enc F)
end Go.Proofs.Ytojpcfjlenjfbaa
