/- PROVED: waits double from the base up to the most (InboxWaits): the law returns true, and each argument reads behind the call as it read before. -/
import Derived.Test.YtojpcfjlenjfbaaCall08
set_option linter.unusedVariables false
set_option linter.unusedSimpArgs false
namespace Go.Proofs.Ytojpcfjlenjfbaa
open Go.RowKit Go.WideShapes Go.ChangeShapes Go.ChangeAt Go.Tk
theorem bound64 {n : Int} (h : (Lit.int .i64 n).wf = true) : i64b n := by
  simp only [Lit.wf, IntKind.min, IntKind.max, IntKind.signed, IntKind.bits, Bool.and_eq_true, decide_eq_true_eq] at h
  unfold i64b
  simp at h
  omega
theorem wait8_law {b l k : Int} (h0 : wait8 b l k ≠ 0) : (b ≤ wait8 b l k ∧ wait8 b l k ≤ l) ∧ wait8 b l k ≤ wait8 b l (k + 1) ∧ (wait8 b l (k + 1) = 2 * wait8 b l k ∨ wait8 b l (k + 1) = l) ∧ (0 < k ∨ wait8 b l k = b) ∧ l ≤ 1073741824 ∧ 1 ≤ b := by
  have hc : fair8 b l = true ∧ 0 ≤ k := by
    by_cases h : fair8 b l = true ∧ 0 ≤ k
    · exact h
    · exact absurd (by unfold wait8; rw [if_neg h]) h0
  obtain ⟨hf, hk⟩ := hc
  clear h0
  obtain ⟨f1, f2, f3⟩ := fair8_yes hf
  rw [(wait8_eq hf hk).2, (wait8_eq hf (show 0 ≤ k + 1 by omega)).2]
  have e30 : (2 : Int) ^ (Int.toNat 30) = 1073741824 := by decide
  by_cases h30 : 30 ≤ k
  · have hA : (if 30 < k then (30 : Int) else k) = 30 := by split <;> omega
    have hB : (if 30 < k + 1 then (30 : Int) else k + 1) = 30 := by rw [if_pos (by omega)]
    rw [hA, hB, e30]
    split <;> omega
  · have hA : (if 30 < k then (30 : Int) else k) = k := by split <;> omega
    have hB : (if 30 < k + 1 then (30 : Int) else k + 1) = k + 1 := by rw [if_neg (by omega)]
    rw [hA, hB]
    have hn : (k + 1).toNat = k.toNat + 1 := by omega
    have hp : b * 2 ^ (k + 1).toNat = 2 * (b * 2 ^ k.toNat) := by
      rw [hn, Int.pow_succ, ← Int.mul_assoc]
      omega
    rw [hp]
    have h1 := pow_mono f1 (show 0 ≤ k.toNat by omega)
    have h2 : k = 0 → b * 2 ^ k.toNat = b := fun e => by rw [e]; simp
    simp only [Int.pow_zero, Int.mul_one] at h1
    generalize b * 2 ^ k.toNat = p at *
    split <;> split <;> omega
set_option maxRecDepth 100000 in
set_option maxHeartbeats 8000000 in
theorem waits_walk (w : World) (b l k : Int) (hk : i64b k) : Calls Try.prog 3 #[.int .i64 b, .int .i64 l, .int .i64 k] w (fun e w' => e = .returned (.bool true) ∧ Below w.heap.size w w') := by
  have O : Mem w [] w [] := Mem.begin
  have CA := Lib.hid (fun W => law_awake8 W)
  have CW := Lib.hid (fun W => q_Wait b l k hk W)
  have CR := Lib.hid (fun W => r_Wait b l k hk W)
  have HL := Lib.hid (fun h => wait8_law (b := b) (l := l) (k := k) h)
  have CX := Lib.hid (fun (hk2 : k ≤ 1073741824) W => q_Wait b l (k + 1) ⟨by have := hk.1; omega, by omega⟩ W)
  have HK := Lib.hid hk
  clear hk
  generalize wait8 b l k = x at *
  generalize wait8 b l (k + 1) = y at *
  go_enter Try.func3, Try.ntmps3
  skip
  have cs := O.facts
  try simp only [factsP, cellsP, roomP, foots_cons, foots_nil, foots_append, foot_pt, ptb, ptb_mapA, foot_mapA, factsP_mapA, foot_bun, List.append_nil, List.nil_append, List.cons_append, List.nodup_cons, List.nodup_nil, List.mem_cons, List.not_mem_nil, List.mem_singleton, List.forall_mem_cons, not_or, not_false_eq_true, and_true, true_and, or_false, false_or, forall_eq_or_imp, forall_eq, implies_true, Nat.zero_add, Nat.reduceAdd, and_assoc] at cs
  go_wp2_with fail
  first | apply Mem.atCall | apply Mem.atCode | apply Mem.atList
  case h => repeat' (first | (with_reducible exact O) | (with_reducible apply Mem.drew) | (with_reducible apply Mem.drewN) | (with_reducible apply Mem.ext) | (with_reducible apply Mem.alloc) | (with_reducible apply Mem.setCell) | (simp only [ptb, ptb_upd, foots_cons, List.mem_cons, World.size_alloc, size_ext, World.size_setCell, true_or, or_true, eq_self_iff_true]))
  case' k =>
    intro w1 O'
    (try clear O)
    have O := O'
    clear O'
    (first | simp only [sel, rst, List.cons_append, List.nil_append, World.size_alloc, size_ext, World.size_setCell, size_setMap, World.size_drew, size_drewN, upd, List.set_cons_zero, List.set_cons_succ, if_true, if_false, reduceIte, not_false_eq_true, ne_lt0, ne_lt1, ne_lt2, ne_lt3, ne_lt4, cs] at O | simp only [sel, rst, List.cons_append, List.nil_append, World.size_alloc, size_ext, World.size_setCell, size_setMap, World.size_drew, size_drewN, upd, List.set_cons_zero, List.set_cons_succ, if_true, if_false, reduceIte, not_false_eq_true, ne_lt0, ne_lt1, ne_lt2, ne_lt3, ne_lt4] at O | skip)
    (try clear cs)
    (try clear v1)
    (try clear v2)
    (try clear v3)
  refine (CA.out _).mono ?_
  rintro e w2 ⟨rfl, o⟩
  replace O := O.callp [] o
  clear o
  simp only [put, List.cons_append, List.nil_append] at O
  have cs := O.facts
  try simp only [factsP, cellsP, roomP, foots_cons, foots_nil, foots_append, foot_pt, ptb, ptb_mapA, foot_mapA, factsP_mapA, foot_bun, List.append_nil, List.nil_append, List.cons_append, List.nodup_cons, List.nodup_nil, List.mem_cons, List.not_mem_nil, List.mem_singleton, List.forall_mem_cons, not_or, not_false_eq_true, and_true, true_and, or_false, false_or, forall_eq_or_imp, forall_eq, implies_true, Nat.zero_add, Nat.reduceAdd, and_assoc] at cs
  go_wp2_with fail
  first | apply Mem.atCall | apply Mem.atCode | apply Mem.atList
  case h => repeat' (first | (with_reducible exact O) | (with_reducible apply Mem.drew) | (with_reducible apply Mem.drewN) | (with_reducible apply Mem.ext) | (with_reducible apply Mem.alloc) | (with_reducible apply Mem.setCell) | (simp only [ptb, ptb_upd, foots_cons, List.mem_cons, World.size_alloc, size_ext, World.size_setCell, true_or, or_true, eq_self_iff_true]))
  case' k =>
    intro w3 O'
    (try clear O)
    have O := O'
    clear O'
    (first | simp only [sel, rst, List.cons_append, List.nil_append, World.size_alloc, size_ext, World.size_setCell, size_setMap, World.size_drew, size_drewN, upd, List.set_cons_zero, List.set_cons_succ, if_true, if_false, reduceIte, not_false_eq_true, ne_lt0, ne_lt1, ne_lt2, ne_lt3, ne_lt4, cs] at O | simp only [sel, rst, List.cons_append, List.nil_append, World.size_alloc, size_ext, World.size_setCell, size_setMap, World.size_drew, size_drewN, upd, List.set_cons_zero, List.set_cons_succ, if_true, if_false, reduceIte, not_false_eq_true, ne_lt0, ne_lt1, ne_lt2, ne_lt3, ne_lt4] at O | skip)
    (try clear cs)
    (try clear v1)
    (try clear v2)
    (try clear v3)
  refine (CW.out _).mono ?_
  rintro e w4 ⟨rfl, o⟩
  replace O := O.callp [] o
  clear o
  simp only [put, List.cons_append, List.nil_append] at O
  have cs := O.facts
  try simp only [factsP, cellsP, roomP, foots_cons, foots_nil, foots_append, foot_pt, ptb, ptb_mapA, foot_mapA, factsP_mapA, foot_bun, List.append_nil, List.nil_append, List.cons_append, List.nodup_cons, List.nodup_nil, List.mem_cons, List.not_mem_nil, List.mem_singleton, List.forall_mem_cons, not_or, not_false_eq_true, and_true, true_and, or_false, false_or, forall_eq_or_imp, forall_eq, implies_true, Nat.zero_add, Nat.reduceAdd, and_assoc] at cs
  go_wp2_with fail
  first | apply Mem.atCall | apply Mem.atCode | apply Mem.atList
  case h => repeat' (first | (with_reducible exact O) | (with_reducible apply Mem.drew) | (with_reducible apply Mem.drewN) | (with_reducible apply Mem.ext) | (with_reducible apply Mem.alloc) | (with_reducible apply Mem.setCell) | (simp only [ptb, ptb_upd, foots_cons, List.mem_cons, World.size_alloc, size_ext, World.size_setCell, true_or, or_true, eq_self_iff_true]))
  case' k =>
    intro w5 O'
    (try clear O)
    have O := O'
    clear O'
    (first | simp only [sel, rst, List.cons_append, List.nil_append, World.size_alloc, size_ext, World.size_setCell, size_setMap, World.size_drew, size_drewN, upd, List.set_cons_zero, List.set_cons_succ, if_true, if_false, reduceIte, not_false_eq_true, ne_lt0, ne_lt1, ne_lt2, ne_lt3, ne_lt4, cs] at O | simp only [sel, rst, List.cons_append, List.nil_append, World.size_alloc, size_ext, World.size_setCell, size_setMap, World.size_drew, size_drewN, upd, List.set_cons_zero, List.set_cons_succ, if_true, if_false, reduceIte, not_false_eq_true, ne_lt0, ne_lt1, ne_lt2, ne_lt3, ne_lt4] at O | skip)
    (try clear cs)
    (try clear v1)
    (try clear v2)
    (try clear v3)
  refine (CR.out _).mono ?_
  rintro e w6 ⟨rfl, o⟩
  replace O := O.callp [] o
  clear o
  simp only [put, List.cons_append, List.nil_append] at O
  by_cases h0 : x = 0
  · subst h0
    have cs := O.facts
    try simp only [factsP, cellsP, roomP, foots_cons, foots_nil, foots_append, foot_pt, ptb, ptb_mapA, foot_mapA, factsP_mapA, foot_bun, List.append_nil, List.nil_append, List.cons_append, List.nodup_cons, List.nodup_nil, List.mem_cons, List.not_mem_nil, List.mem_singleton, List.forall_mem_cons, not_or, not_false_eq_true, and_true, true_and, or_false, false_or, forall_eq_or_imp, forall_eq, implies_true, Nat.zero_add, Nat.reduceAdd, and_assoc] at cs
    go_wp2_with fail
    go_ret
    exact ⟨rfl, O.fr0.fr.below rfl⟩
  · have h0' : (x == 0) = false := by simpa using h0
    obtain ⟨⟨a1, a2⟩, a3, a4, a5, a6, a7⟩ := HL.out h0
    by_cases hk2 : 1073741824 < k
    · have hkd : decide (1073741824 < k) = true := by simpa using hk2
      clear a1 a2 a3 a4 a5 a6 a7
      have cs := O.facts
      try simp only [factsP, cellsP, roomP, foots_cons, foots_nil, foots_append, foot_pt, ptb, ptb_mapA, foot_mapA, factsP_mapA, foot_bun, List.append_nil, List.nil_append, List.cons_append, List.nodup_cons, List.nodup_nil, List.mem_cons, List.not_mem_nil, List.mem_singleton, List.forall_mem_cons, not_or, not_false_eq_true, and_true, true_and, or_false, false_or, forall_eq_or_imp, forall_eq, implies_true, Nat.zero_add, Nat.reduceAdd, and_assoc] at cs
      go_wp2_with fail
      all_goals first | (exfalso; omega) | (go_ret; exact ⟨rfl, O.fr0.fr.below rfl⟩)
    · have hk3 : k ≤ 1073741824 := by omega
      have CY := Lib.hid (CX.out hk3)
      have hk4 : -9223372036854775808 ≤ k := HK.out.1
      have hx2 : wrap64 (2 * x) = 2 * x := by simp [wrap64]; omega
      have hA := Lib.hid (And.intro a1 (And.intro a2 (And.intro a3 (And.intro a4 (And.intro a5 (And.intro a6 a7))))))
      clear a1 a2 a3 a4 a5 a6 a7 CX
      have cs := O.facts
      try simp only [factsP, cellsP, roomP, foots_cons, foots_nil, foots_append, foot_pt, ptb, ptb_mapA, foot_mapA, factsP_mapA, foot_bun, List.append_nil, List.nil_append, List.cons_append, List.nodup_cons, List.nodup_nil, List.mem_cons, List.not_mem_nil, List.mem_singleton, List.forall_mem_cons, not_or, not_false_eq_true, and_true, true_and, or_false, false_or, forall_eq_or_imp, forall_eq, implies_true, Nat.zero_add, Nat.reduceAdd, and_assoc] at cs
      go_wp2_with fail
      first | apply Mem.atCall | apply Mem.atCode | apply Mem.atList
      case h => repeat' (first | (with_reducible exact O) | (with_reducible apply Mem.drew) | (with_reducible apply Mem.drewN) | (with_reducible apply Mem.ext) | (with_reducible apply Mem.alloc) | (with_reducible apply Mem.setCell) | (simp only [ptb, ptb_upd, foots_cons, List.mem_cons, World.size_alloc, size_ext, World.size_setCell, true_or, or_true, eq_self_iff_true]))
      case' k =>
        intro w7 O'
        (try clear O)
        have O := O'
        clear O'
        (first | simp only [sel, rst, List.cons_append, List.nil_append, World.size_alloc, size_ext, World.size_setCell, size_setMap, World.size_drew, size_drewN, upd, List.set_cons_zero, List.set_cons_succ, if_true, if_false, reduceIte, not_false_eq_true, ne_lt0, ne_lt1, ne_lt2, ne_lt3, ne_lt4, cs] at O | simp only [sel, rst, List.cons_append, List.nil_append, World.size_alloc, size_ext, World.size_setCell, size_setMap, World.size_drew, size_drewN, upd, List.set_cons_zero, List.set_cons_succ, if_true, if_false, reduceIte, not_false_eq_true, ne_lt0, ne_lt1, ne_lt2, ne_lt3, ne_lt4] at O | skip)
        (try clear cs)
        (try clear v1)
        (try clear v2)
        (try clear v3)
      refine (CY.out _).mono ?_
      rintro e w8 ⟨rfl, o⟩
      replace O := O.callp [] o
      clear o
      simp only [put, List.cons_append, List.nil_append] at O
      obtain ⟨a1, a2, a3, a4, a5, a6, a7⟩ := hA.out
      have cs := O.facts
      try simp only [factsP, cellsP, roomP, foots_cons, foots_nil, foots_append, foot_pt, ptb, ptb_mapA, foot_mapA, factsP_mapA, foot_bun, List.append_nil, List.nil_append, List.cons_append, List.nodup_cons, List.nodup_nil, List.mem_cons, List.not_mem_nil, List.mem_singleton, List.forall_mem_cons, not_or, not_false_eq_true, and_true, true_and, or_false, false_or, forall_eq_or_imp, forall_eq, implies_true, Nat.zero_add, Nat.reduceAdd, and_assoc] at cs
      go_wp2_with fail
      all_goals first | (exfalso; omega) | (go_ret; exact ⟨rfl, O.fr0.fr.below rfl⟩) | skip
      all_goals have hxb : x = b := (by omega)
      all_goals subst hxb
      all_goals go_ret
      all_goals refine ⟨?_, O.fr0.fr.below rfl⟩
      all_goals simp
set_option maxRecDepth 100000 in
theorem readInboxWaits_2 : Try.prog.readableRec 2 = true ∧ 2 < Try.prog.types.size := ⟨by kernel_rfl, of_decide_eq_true (by kernel_rfl)⟩
set_option maxRecDepth 100000 in
theorem readInboxWaits_3 : Try.prog.readableRec 3 = true ∧ 3 < Try.prog.types.size := ⟨by kernel_rfl, of_decide_eq_true (by kernel_rfl)⟩
set_option maxRecDepth 100000 in
theorem ownInboxWaits : ownKnob Try.prog.godebug = none := by kernel_rfl
set_option maxRecDepth 100000 in
theorem laidOutInboxWaits : laidOutB Try.prog = true := by kernel_rfl
set_option maxRecDepth 100000 in
theorem contractInboxWaits (H : Type) (enc : TypeId × Value → H) (W : World) (base : Nat) (args : Array Value) (ds gs : List (DataW H)) (before : List MemPlace)
    (hval : ∀ (j : Nat) t v, Try.f3.params[j]? = some t → args[j]? = some v → Value.okWide Try.prog W .any base t v)
    (hW : DataW.Whole enc Try.prog Try.f3.params.toList Rows.inboxWaitsSpec.vars false W args.toList ds gs before) (hk : Rows.uptoSmall H (ds ++ gs) = true) :
    Calls Try.prog 3 args W fun e W' => ∃ v, e = .returned v ∧ Rows.inboxWaitsSpec.post enc Try.prog Try.f3 false true false false W args v W' := by
  have hfin : ∀ W', Below W.heap.size W W' → Rows.inboxWaitsSpec.post enc Try.prog Try.f3 false true false false W args (.bool true) W' := fun W' hb =>
    post_of_walk (n := 3) (boolT := 4) rfl (fun ds h => by match ds, h with | [a0, a1, a2], _ => exact ⟨rfl, rfl, rfl⟩) rfl rfl Try.underlying4 laidOutInboxWaits (fun t ht => by rw [Try.params3] at ht; simp at ht; first | ((rcases ht with rfl | rfl | rfl) <;> (first | exact readInboxWaits_2 | exact readInboxWaits_3)) | ((rcases ht with rfl | rfl) <;> (first | exact readInboxWaits_2 | exact readInboxWaits_3))) hW hb
  have hN : Rows.uptoBulkAll (ds ++ gs) ≤ 1048576 := of_decide_eq_true hk
  obtain ⟨p, q, hA, hV, rfl, hfz, hnd⟩ := hW
  rw [Try.params3] at hA hval
  obtain ⟨v0, vs0, d0, ds0, p0, q0, hargs, rfl, rfl, h0, r0⟩ := trodAll_cons hA
  obtain ⟨v1, vs1, d1, ds1, p1, q1, rfl, rfl, rfl, h1, r1⟩ := trodAll_cons r0
  obtain ⟨v2, vs2, d2, ds2, p2, q2, rfl, rfl, rfl, h2, r2⟩ := trodAll_cons r1
  obtain ⟨rfl, rfl, rfl⟩ := trodAll_nil r2
  obtain rfl : args = #[v0, v1, v2] := by cases args; simp_all
  simp only [List.cons_append, List.nil_append, Rows.uptoBulkAll] at hN
  obtain ⟨x0, rfl⟩ := okWide_int Try.underlying2 (hval 0 2 v0 rfl rfl)
  obtain ⟨f0, g0⟩ := h0
  have ty0 := typed_of_trod (N := 1048576) f0 _ _ _ g0 (by simp only; omega)
  obtain ⟨x1, rfl⟩ := okWide_int Try.underlying2 (hval 1 2 v1 rfl rfl)
  obtain ⟨f1, g1⟩ := h1
  have ty1 := typed_of_trod (N := 1048576) f1 _ _ _ g1 (by simp only; omega)
  obtain ⟨x2, rfl⟩ := okWide_int Try.underlying3 (hval 2 3 v2 rfl rfl)
  obtain ⟨f2, g2⟩ := h2
  have ty2 := typed_of_trod (N := 1048576) f2 _ _ _ g2 (by simp only; omega)
  obtain ⟨b, e1, h1⟩ := typed_int Try.underlying2 ty0
  obtain rfl : x0 = b := by simpa [Value.cells] using e1
  obtain ⟨l, e2, h2⟩ := typed_int Try.underlying2 ty1
  obtain rfl : x1 = l := by simpa [Value.cells] using e2
  obtain ⟨k, e3, h3⟩ := typed_int Try.underlying3 ty2
  obtain rfl : x2 = k := by simpa [Value.cells] using e3
  exact (waits_walk W x0 x1 x2 (bound64 h3)).mono fun e W' ⟨he, hy⟩ => ⟨_, he, hfin W' hy⟩

set_option maxRecDepth 100000 in
theorem liftedInboxWaits (os : Os) (started : os.Started) (H : Type) (enc : TypeId × Value → H) (F : Stop.Interp) :
    ReturnsInHanded {} Try.checked os 3 .any ((Rows.OpenSpec.upto Rows.inboxWaitsSpec).pre6 enc Try.prog Try.f3 Rows.inboxWaitsUptoRow.domain false) (((Rows.OpenSpec.upto Rows.inboxWaitsSpec).at F).post enc Try.prog Try.f3 false true false false) := by
  refine returnsInHanded_of_cond (C := Try.checked) (s := Rows.OpenSpec.upto Rows.inboxWaitsSpec) (k := Rows.uptoSmall) rfl ownInboxWaits started (by kernel_rfl) Try.func3
    (OpenSpec.witness (enc := enc) (C := Try.checked) (s := Rows.OpenSpec.upto Rows.inboxWaitsSpec) (k := Rows.uptoSmall) rfl false
      ⟨#[], #[.int .i64 0, .int .i64 0, .int .i64 0], []⟩ 8 (by kernel_rfl) (by kernel_rfl) (by kernel_rfl)
      (x := ([.lit (.int .i64 0), .lit (.int .i64 0), .lit (.int .i64 0)], [], [])) (by kernel_rfl) rfl (by kernel_rfl)) ?_
  intro W base args ds gs before hval hW _ hk _
  exact contractInboxWaits H enc W base args ds gs before hval hW hk

theorem InboxWaits_holds : Rows.InboxWaitsUptoSaid :=
  OpenClaim.holds_of_cond 3 Try.f3 rfl rfl rfl rfl rfl rfl rfl ⟨rfl, rfl, rfl, rfl, rfl⟩ rfl rfl rfl rfl rfl (by kernel_rfl) Try.func3 (by kernel_rfl)
    (of_decide_eq_true (by kernel_rfl)) (by unfold Func.isWrapper; first | (rw [if_pos (by decide +kernel)]; kernel_rfl) | (rw [if_neg (by decide +kernel)]; exact ⟨rfl, rfl⟩))
    (fun os started H enc _ F => liftedInboxWaits os started H enc F)
end Go.Proofs.Ytojpcfjlenjfbaa
