/- WALKS: which votes count (votes.Counts), as the program and as the document has it. -/
import Derived.Test.YteheajddplkmdaaTxRef
set_option linter.unusedVariables false
set_option linter.unusedSimpArgs false
namespace Go.Proofs.Yteheajddplkmdaa
open Go.RowKit Go.Tk

def countsOf (rt : Bool) (l : List ItemR) (i k : Int) : Bool :=
  rt && decide (0 ≤ i ∧ i < l.length ∧ 0 ≤ k ∧ k < 4) && (match l[i.toNat]? with | some x => decide (x.inc k.toNat ≠ 0) | none => false)
set_option maxRecDepth 100000 in
set_option maxHeartbeats 1000000 in
theorem votes_Counts (t : TxR) (i k : Int) (w : World) (hi : Items w t.data t.items) (hw : (Lit.int .i64 t.m0).wf = true ∧ (Lit.int .i64 t.m1).wf = true ∧ (Lit.int .i64 t.m2).wf = true) :
    Calls Try.prog 15 #[t.val, .int .i64 i, .int .i64 k] w (Gives w (.bool (countsOf t.right t.items i k))) := by
  obtain ⟨r, hr⟩ : ∃ r, r = countsOf t.right t.items i k := ⟨_, rfl⟩
  rw [← hr]
  have C := Lib.hid (fun W (h : Items W t.data t.items) => votes_Right t W h hw)
  unfold countsOf at hr
  generalize t.right = rt at *
  obtain ⟨id, client, m0, m1, m2, data, l⟩ := t
  simp only at hi hr C
  unfold TxR.val at *
  simp only at C ⊢
  have HI := Lib.hid hi
  have HR := Lib.hid hr
  clear hr hw
  obtain ⟨hl, A, c, rfl, hc⟩ := hi
  have HC := Lib.hid hc
  clear hc
  obtain ⟨q1, q2, q3, q4, q5, q6⟩ := roomy (b := w.heap.size) (s := w.heap.size + 1) (by omega)
  cases rt
  · go_enter Try.func15, Try.ntmps15
    go_wp2_with (go_at_call 13; refine (C.out _ (HI.out.alloc _)).mono ?_; rintro e w1 ⟨rfl, y, rfl⟩)
    go_ret
    exact .mk (by rw [HR.out]; rfl) (below_of_ext ((Below.refl _ _).alloc (Nat.le_refl _) _) (by (try simp only [World.size_alloc, size_ext, World.size_setCell]); omega))
  by_cases h : 0 ≤ i ∧ i < l.length ∧ 0 ≤ k ∧ k < 4
  case neg =>
    have HN := Lib.hid h
    by_cases h1 : 0 ≤ i
    case neg =>
      clear h
      go_enter Try.func15, Try.ntmps15
      go_wp2_with (go_at_call 13; refine (C.out _ (HI.out.alloc _)).mono ?_; rintro e w1 ⟨rfl, y, rfl⟩)
      go_ret
      exact .mk (vbool (by rw [HR.out]; simp [HN.out])) (below_of_ext ((Below.refl _ _).alloc (Nat.le_refl _) _) (by (try simp only [World.size_alloc, size_ext, World.size_setCell]); omega))
    by_cases h2 : i < l.length
    case neg =>
      clear h
      go_enter Try.func15, Try.ntmps15
      go_wp2_with (go_at_call 13; refine (C.out _ (HI.out.alloc _)).mono ?_; rintro e w1 ⟨rfl, y, rfl⟩)
      go_ret
      exact .mk (vbool (by rw [HR.out]; simp [HN.out])) (below_of_ext ((Below.refl _ _).alloc (Nat.le_refl _) _) (by (try simp only [World.size_alloc, size_ext, World.size_setCell]); omega))
    by_cases h3 : 0 ≤ k
    case neg =>
      clear h
      go_enter Try.func15, Try.ntmps15
      go_wp2_with (go_at_call 13; refine (C.out _ (HI.out.alloc _)).mono ?_; rintro e w1 ⟨rfl, y, rfl⟩)
      go_ret
      exact .mk (vbool (by rw [HR.out]; simp [HN.out])) (below_of_ext ((Below.refl _ _).alloc (Nat.le_refl _) _) (by (try simp only [World.size_alloc, size_ext, World.size_setCell]); omega))
    have h4 : ¬ k < 4 := fun h4 => h ⟨h1, h2, h3, h4⟩
    clear h
    go_enter Try.func15, Try.ntmps15
    go_wp2_with (go_at_call 13; refine (C.out _ (HI.out.alloc _)).mono ?_; rintro e w1 ⟨rfl, y, rfl⟩)
    go_ret
    exact .mk (vbool (by rw [HR.out]; simp [HN.out])) (below_of_ext ((Below.refl _ _).alloc (Nat.le_refl _) _) (by (try simp only [World.size_alloc, size_ext, World.size_setCell]); omega))
  obtain ⟨h1, h2, h3, h4⟩ := h
  obtain ⟨n, rfl⟩ := Int.eq_ofNat_of_zero_le h1
  obtain ⟨j, rfl⟩ := Int.eq_ofNat_of_zero_le h3
  have hlt : n < l.length := by omega
  have hj : j < 4 := by omega
  have hx : l[n]? = some l[n] := List.getElem?_eq_getElem hlt
  obtain ⟨he, b, off, rfl, hb, c0, c1, c2, c3, c4, c5, c6, c7⟩ := HC.out n _ hx
  have hcell : w.cell? ⟨b, off + n * 8 + 4 + j, none⟩ = some (.int .u32 (l[n].inc j)) := by
    have hcase : j = 0 ∨ j = 1 ∨ j = 2 ∨ j = 3 := by omega
    rcases hcase with rfl | rfl | rfl | rfl <;> assumption
  obtain ⟨r1, r2, r3, r4, r5, r6⟩ := roomy hb
  have HX : Hid (r = decide (l[n].inc j ≠ 0)) := Lib.hid (by rw [HR.out]; simp [hx]; omega)
  clear c0 c1 c2 c3 c4 c5 c6 c7 he hx
  generalize l[n].inc j = ij at *
  go_enter Try.func15, Try.ntmps15
  go_wp2_with (go_at_call 13; refine (C.out _ (HI.out.alloc _)).mono ?_; rintro e w1 ⟨rfl, y, rfl⟩)
  go_ret
  exact .mk (vbool (by rw [HX.out]; simp)) (below_of_ext ((Below.refl _ _).alloc (Nat.le_refl _) _) (by (try simp only [World.size_alloc, size_ext, World.size_setCell]); omega))

set_option maxRecDepth 100000 in
set_option maxHeartbeats 1000000 in
theorem ref18_Counts (t : TxR) (i k : Int) (w : World) (hi : Items w t.data t.items) :
    Calls Try.prog 16 #[t.val, .int .i64 i, .int .i64 k] w (Gives w (.bool (countsOf t.right t.items i k))) := by
  obtain ⟨r, hr⟩ : ∃ r, r = countsOf t.right t.items i k := ⟨_, rfl⟩
  rw [← hr]
  have C := Lib.hid (fun W (h : Items W t.data t.items) => ref18_Right t W h)
  unfold countsOf at hr
  generalize t.right = rt at *
  obtain ⟨id, client, m0, m1, m2, data, l⟩ := t
  simp only at hi hr C
  unfold TxR.val at *
  simp only at C ⊢
  have HI := Lib.hid hi
  have HR := Lib.hid hr
  clear hr
  obtain ⟨hl, A, c, rfl, hc⟩ := hi
  have HC := Lib.hid hc
  clear hc
  obtain ⟨q1, q2, q3, q4, q5, q6⟩ := roomy (b := w.heap.size) (s := w.heap.size + 1) (by omega)
  cases rt
  · go_enter Try.func16, Try.ntmps16
    go_wp2_with (go_at_call 14; refine (C.out _ (HI.out.alloc _)).mono ?_; rintro e w1 ⟨rfl, y, rfl⟩)
    go_ret
    exact .mk (by rw [HR.out]; rfl) (below_of_ext ((Below.refl _ _).alloc (Nat.le_refl _) _) (by (try simp only [World.size_alloc, size_ext, World.size_setCell]); omega))
  by_cases h : 0 ≤ i ∧ i < l.length ∧ 0 ≤ k ∧ k < 4
  case neg =>
    have HN := Lib.hid h
    by_cases h1 : 0 ≤ i
    case neg =>
      clear h
      go_enter Try.func16, Try.ntmps16
      go_wp2_with (go_at_call 14; refine (C.out _ (HI.out.alloc _)).mono ?_; rintro e w1 ⟨rfl, y, rfl⟩)
      go_ret
      exact .mk (vbool (by rw [HR.out]; simp [HN.out])) (below_of_ext ((Below.refl _ _).alloc (Nat.le_refl _) _) (by (try simp only [World.size_alloc, size_ext, World.size_setCell]); omega))
    by_cases h2 : i < l.length
    case neg =>
      clear h
      go_enter Try.func16, Try.ntmps16
      go_wp2_with (go_at_call 14; refine (C.out _ (HI.out.alloc _)).mono ?_; rintro e w1 ⟨rfl, y, rfl⟩)
      go_ret
      exact .mk (vbool (by rw [HR.out]; simp [HN.out])) (below_of_ext ((Below.refl _ _).alloc (Nat.le_refl _) _) (by (try simp only [World.size_alloc, size_ext, World.size_setCell]); omega))
    by_cases h3 : 0 ≤ k
    case neg =>
      clear h
      go_enter Try.func16, Try.ntmps16
      go_wp2_with (go_at_call 14; refine (C.out _ (HI.out.alloc _)).mono ?_; rintro e w1 ⟨rfl, y, rfl⟩)
      go_ret
      exact .mk (vbool (by rw [HR.out]; simp [HN.out])) (below_of_ext ((Below.refl _ _).alloc (Nat.le_refl _) _) (by (try simp only [World.size_alloc, size_ext, World.size_setCell]); omega))
    have h4 : ¬ k < 4 := fun h4 => h ⟨h1, h2, h3, h4⟩
    clear h
    go_enter Try.func16, Try.ntmps16
    go_wp2_with (go_at_call 14; refine (C.out _ (HI.out.alloc _)).mono ?_; rintro e w1 ⟨rfl, y, rfl⟩)
    go_ret
    exact .mk (vbool (by rw [HR.out]; simp [HN.out])) (below_of_ext ((Below.refl _ _).alloc (Nat.le_refl _) _) (by (try simp only [World.size_alloc, size_ext, World.size_setCell]); omega))
  obtain ⟨h1, h2, h3, h4⟩ := h
  obtain ⟨n, rfl⟩ := Int.eq_ofNat_of_zero_le h1
  obtain ⟨j, rfl⟩ := Int.eq_ofNat_of_zero_le h3
  have hlt : n < l.length := by omega
  have hj : j < 4 := by omega
  have hx : l[n]? = some l[n] := List.getElem?_eq_getElem hlt
  obtain ⟨he, b, off, rfl, hb, c0, c1, c2, c3, c4, c5, c6, c7⟩ := HC.out n _ hx
  have hcell : w.cell? ⟨b, off + n * 8 + 4 + j, none⟩ = some (.int .u32 (l[n].inc j)) := by
    have hcase : j = 0 ∨ j = 1 ∨ j = 2 ∨ j = 3 := by omega
    rcases hcase with rfl | rfl | rfl | rfl <;> assumption
  obtain ⟨r1, r2, r3, r4, r5, r6⟩ := roomy hb
  have HX : Hid (r = decide (l[n].inc j ≠ 0)) := Lib.hid (by rw [HR.out]; simp [hx]; omega)
  clear c0 c1 c2 c3 c4 c5 c6 c7 he hx
  generalize l[n].inc j = ij at *
  go_enter Try.func16, Try.ntmps16
  go_wp2_with (go_at_call 14; refine (C.out _ (HI.out.alloc _)).mono ?_; rintro e w1 ⟨rfl, y, rfl⟩)
  go_ret
  exact .mk (vbool (by rw [HX.out]; simp)) (below_of_ext ((Below.refl _ _).alloc (Nat.le_refl _) _) (by (try simp only [World.size_alloc, size_ext, World.size_setCell]); omega))
end Go.Proofs.Yteheajddplkmdaa
