/- WALK: a promise is counted (Promise): it comes to the plain function. -/
import Derived.Test.YtkhpikjmhamppaaProp11
set_option linter.unusedVariables false
set_option linter.unusedSimpArgs false
namespace Go.Proofs.Ytkhpikjmhamppaa
open Go.RowKit Go.Tk

theorem zeroBool (w : World) : (zeroValue 4).run Try.prog w = .ok (.bool false) w := by kernel_rfl
set_option maxRecDepth 100000 in
set_option maxHeartbeats 8000000 in
/-- refused: no ballot yet, another ballot, no acceptor -/
theorem prop_Promise_no (w : World) (pb : Nat) (mo : Option Nat) (p : Prop11) (f : Int) (b : Ballot) (a : Acc) (h : Pre w (propL pb mo p)) (hn : p.b.r = 0 ∨ b ≠ p.b ∨ f < 0 ∨ p.n ≤ f) :
    Calls Try.prog 12 #[.pointer (some ⟨pb, 0, none⟩), .int .i64 f, b.val, a.val] w (fun e w' => e = .returned (.tuple #[.string .empty, .bool false]) ∧ Mem w [] w' []) := by
  obtain ⟨L2, hL⟩ : ∃ L2, propL pb mo p = .pt pb (p.cells mo) 85 :: L2 := ⟨_, rfl⟩
  rw [hL] at h
  have H := Lib.hid h
  clear h hL
  obtain ⟨node, n, ⟨pr, pn⟩, prom, best, own⟩ := p
  obtain ⟨br, bn⟩ := b
  obtain ⟨ai, ⟨ar, an⟩, av⟩ := a
  simp only [Ballot.mk.injEq, ne_eq] at hn
  have hc : pr = 0 ∨ (¬ pr = 0 ∧ ¬ br = pr) ∨ (¬ pr = 0 ∧ br = pr ∧ ¬ bn = pn) ∨ (¬ pr = 0 ∧ br = pr ∧ bn = pn ∧ f < 0) ∨ (¬ pr = 0 ∧ br = pr ∧ bn = pn ∧ ¬ f < 0 ∧ n ≤ f) := by omega
  clear hn
  simp only [Ballot.val, Acc.val]
  have O : Mem w [] w [] := Mem.begin
  skip
  rcases hc with h1 | ⟨h1, h2⟩ | ⟨h1, rfl, h2⟩ | ⟨h1, rfl, rfl, h2⟩ | ⟨h1, rfl, rfl, h2, h3⟩
  all_goals
    try (have h1b : (pr == 0) = false := by simp [h1])
    try (have h1b : (br == 0) = false := by simp [h1])
    try (have h2b : decide (f < 0) = true := by simp [h2])
    try (have h2b : decide (f < 0) = false := by simp; omega)
    go_enter Try.func12, Try.ntmps12
    have cs := O.facts
    simp only [factsP, cellsP, roomP, foots_cons, foots_nil, foots_append, foot_pt, ptb, ptb_mapA, foot_mapA, factsP_mapA, foot_bun, List.append_nil, List.nil_append, List.cons_append, List.nodup_cons, List.nodup_nil, List.mem_cons, List.not_mem_nil, List.mem_singleton, List.forall_mem_cons, not_or, not_false_eq_true, and_true, true_and, or_false, false_or, forall_eq_or_imp, forall_eq, implies_true, Nat.zero_add, Nat.reduceAdd, and_assoc, Prop11.cells, propL] at cs
    have v1 := (H.out.view O.fr).facts
    try simp only [cellsQ, roomP, and_assoc, and_true, true_and, Nat.add_zero, Nat.zero_add, Nat.reduceAdd, factsP, cellsP, roomP, foots_cons, foots_nil, foots_append, foot_pt, ptb, ptb_mapA, foot_mapA, factsP_mapA, foot_bun, List.append_nil, List.nil_append, List.cons_append, List.nodup_cons, List.nodup_nil, List.mem_cons, List.not_mem_nil, List.mem_singleton, List.forall_mem_cons, not_or, not_false_eq_true, and_true, true_and, or_false, false_or, forall_eq_or_imp, forall_eq, implies_true, Nat.zero_add, Nat.reduceAdd, and_assoc, Prop11.cells, propL] at v1
    go_wp2_with fail
    apply region_quiet_mem (by kernel_rfl) (by kernel_rfl)
    case O => repeat' (first | (with_reducible exact O) | (with_reducible apply Mem.drew) | (with_reducible apply Mem.drewN) | (with_reducible apply Mem.ext) | (with_reducible apply Mem.alloc) | (with_reducible apply Mem.setCell) | (simp only [ptb, ptb_upd, foots_cons, List.mem_cons, World.size_alloc, size_ext, World.size_setCell, true_or, or_true, eq_self_iff_true]))
    case' h =>
      intro w1 O'
      (try clear O)
      have O := O'
      clear O'
      (first | simp only [sel, rst, List.cons_append, List.nil_append, World.size_alloc, size_ext, World.size_setCell, size_setMap, World.size_drew, size_drewN, upd, List.set_cons_zero, List.set_cons_succ, if_true, if_false, reduceIte, not_false_eq_true, ne_lt0, ne_lt1, ne_lt2, ne_lt3, ne_lt4, cs] at O | simp only [sel, rst, List.cons_append, List.nil_append, World.size_alloc, size_ext, World.size_setCell, size_setMap, World.size_drew, size_drewN, upd, List.set_cons_zero, List.set_cons_succ, if_true, if_false, reduceIte, not_false_eq_true, ne_lt0, ne_lt1, ne_lt2, ne_lt3, ne_lt4] at O | skip)
      (try clear cs)
      (try clear v1)
      (try clear v2)
      (try clear v3)
    have cs := O.facts
    simp only [factsP, cellsP, roomP, foots_cons, foots_nil, foots_append, foot_pt, ptb, ptb_mapA, foot_mapA, factsP_mapA, foot_bun, List.append_nil, List.nil_append, List.cons_append, List.nodup_cons, List.nodup_nil, List.mem_cons, List.not_mem_nil, List.mem_singleton, List.forall_mem_cons, not_or, not_false_eq_true, and_true, true_and, or_false, false_or, forall_eq_or_imp, forall_eq, implies_true, Nat.zero_add, Nat.reduceAdd, and_assoc, Prop11.cells, propL] at cs
    have v1 := (H.out.view O.fr).facts
    try simp only [cellsQ, roomP, and_assoc, and_true, true_and, Nat.add_zero, Nat.zero_add, Nat.reduceAdd, factsP, cellsP, roomP, foots_cons, foots_nil, foots_append, foot_pt, ptb, ptb_mapA, foot_mapA, factsP_mapA, foot_bun, List.append_nil, List.nil_append, List.cons_append, List.nodup_cons, List.nodup_nil, List.mem_cons, List.not_mem_nil, List.mem_singleton, List.forall_mem_cons, not_or, not_false_eq_true, and_true, true_and, or_false, false_or, forall_eq_or_imp, forall_eq, implies_true, Nat.zero_add, Nat.reduceAdd, and_assoc, Prop11.cells, propL] at v1
    repeat (go_big_quiet_step ((fail)))
    refine wpQuiet_nil ?_
    intro w2 hq
    (try clear cs)
    (try clear v1)
    (try clear v2)
    (try clear v3)
    replace O := O.qext hq
    clear hq
    have cs := O.facts
    simp only [factsP, cellsP, roomP, foots_cons, foots_nil, foots_append, foot_pt, ptb, ptb_mapA, foot_mapA, factsP_mapA, foot_bun, List.append_nil, List.nil_append, List.cons_append, List.nodup_cons, List.nodup_nil, List.mem_cons, List.not_mem_nil, List.mem_singleton, List.forall_mem_cons, not_or, not_false_eq_true, and_true, true_and, or_false, false_or, forall_eq_or_imp, forall_eq, implies_true, Nat.zero_add, Nat.reduceAdd, and_assoc, Prop11.cells, propL] at cs
    have v1 := (H.out.view O.fr).facts
    try simp only [cellsQ, roomP, and_assoc, and_true, true_and, Nat.add_zero, Nat.zero_add, Nat.reduceAdd, factsP, cellsP, roomP, foots_cons, foots_nil, foots_append, foot_pt, ptb, ptb_mapA, foot_mapA, factsP_mapA, foot_bun, List.append_nil, List.nil_append, List.cons_append, List.nodup_cons, List.nodup_nil, List.mem_cons, List.not_mem_nil, List.mem_singleton, List.forall_mem_cons, not_or, not_false_eq_true, and_true, true_and, or_false, false_or, forall_eq_or_imp, forall_eq, implies_true, Nat.zero_add, Nat.reduceAdd, and_assoc, Prop11.cells, propL] at v1
    go_wp2_with fail
    go_ret2
    exact ⟨rfl, O.fr0⟩

theorem okSmall {f : Int} (h1 : 0 ≤ f) (h2 : f ≤ 9) : intK.ok f := by
  show (Lit.int .i64 f).wf = true
  simp [Lit.wf, IntKind.min, IntKind.max, IntKind.signed, IntKind.bits]
  omega
theorem look_bool {W : World} {mb : Nat} {prom : List (Int × Bool)} (h : MapAt intK Value.bool W mb prom) {f : Int} (hk : intK.ok f) : (Instr.lookup 83 (.map (some mb)) (.int .i64 f) false).run Try.prog W = .ok (.bool ((mget prom f).getD false)) W := by
  have := h.lookup Try.underlying83 zeroBool hk false
  simp only [Bool.false_eq_true, if_false] at this
  rw [show intK.kv f = .int .i64 f from rfl] at this
  rw [this]
  cases mget prom f <;> rfl
set_option maxRecDepth 100000 in
set_option maxHeartbeats 8000000 in
/-- heard already -/
theorem prop_Promise_dup (w : World) (pb mb : Nat) (p : Prop11) (f : Int) (a : Acc) (h : Pre w (propL pb (some mb) p)) (h0 : ¬ p.b.r = 0) (h1 : 0 ≤ f) (h2 : f < p.n) (h3 : p.n ≤ 9) (hd : (mget p.prom f).getD false = true) :
    Calls Try.prog 12 #[.pointer (some ⟨pb, 0, none⟩), .int .i64 f, p.b.val, a.val] w (fun e w' => e = .returned (.tuple #[.string .empty, .bool false]) ∧ Mem w [] w' []) := by
  have H := Lib.hid h
  clear h
  obtain ⟨node, n, ⟨pr, pn⟩, prom, best, own⟩ := p
  obtain ⟨ai, ⟨ar, an⟩, av⟩ := a
  simp only at h0 h1 h2 h3 hd
  simp only [Ballot.val, Acc.val]
  have O : Mem w [] w [] := Mem.begin
  have h1b : (pr == 0) = false := by simp [h0]
  have h2b : decide (f < 0) = false := by simp; omega
  have h3b : decide (n ≤ f) = false := by simp; omega
  have hk : intK.ok f := okSmall h1 (by omega)
  have LK := Lib.hid (fun W (hW : Pre W (propL pb (some mb) ⟨node, n, ⟨pr, pn⟩, prom, best, own⟩)) => look_bool (hW.map (κ := intK) (vv := Value.bool) (b := mb) (m := prom) (by simp [propL])) hk)
  rw [hd] at LK
  clear hd hk
  skip
  go_enter Try.func12, Try.ntmps12
  have cs := O.facts
  simp only [factsP, cellsP, roomP, foots_cons, foots_nil, foots_append, foot_pt, ptb, ptb_mapA, foot_mapA, factsP_mapA, foot_bun, List.append_nil, List.nil_append, List.cons_append, List.nodup_cons, List.nodup_nil, List.mem_cons, List.not_mem_nil, List.mem_singleton, List.forall_mem_cons, not_or, not_false_eq_true, and_true, true_and, or_false, false_or, forall_eq_or_imp, forall_eq, implies_true, Nat.zero_add, Nat.reduceAdd, and_assoc, Prop11.cells, propL] at cs
  have v1 := (H.out.view O.fr).facts
  try simp only [cellsQ, roomP, and_assoc, and_true, true_and, Nat.add_zero, Nat.zero_add, Nat.reduceAdd, factsP, cellsP, roomP, foots_cons, foots_nil, foots_append, foot_pt, ptb, ptb_mapA, foot_mapA, factsP_mapA, foot_bun, List.append_nil, List.nil_append, List.cons_append, List.nodup_cons, List.nodup_nil, List.mem_cons, List.not_mem_nil, List.mem_singleton, List.forall_mem_cons, not_or, not_false_eq_true, and_true, true_and, or_false, false_or, forall_eq_or_imp, forall_eq, implies_true, Nat.zero_add, Nat.reduceAdd, and_assoc, Prop11.cells, propL] at v1
  have v2 := (fun x => LK.out _ (H.out.view (O.ext (x := x)).fr))
  try simp only [cellsQ, roomP, and_assoc, and_true, true_and, Nat.add_zero, Nat.zero_add, Nat.reduceAdd, factsP, cellsP, roomP, foots_cons, foots_nil, foots_append, foot_pt, ptb, ptb_mapA, foot_mapA, factsP_mapA, foot_bun, List.append_nil, List.nil_append, List.cons_append, List.nodup_cons, List.nodup_nil, List.mem_cons, List.not_mem_nil, List.mem_singleton, List.forall_mem_cons, not_or, not_false_eq_true, and_true, true_and, or_false, false_or, forall_eq_or_imp, forall_eq, implies_true, Nat.zero_add, Nat.reduceAdd, and_assoc, Prop11.cells, propL] at v2
  go_wp2_with fail
  apply region_quiet_mem (by kernel_rfl) (by kernel_rfl)
  case O => repeat' (first | (with_reducible exact O) | (with_reducible apply Mem.drew) | (with_reducible apply Mem.drewN) | (with_reducible apply Mem.ext) | (with_reducible apply Mem.alloc) | (with_reducible apply Mem.setCell) | (simp only [ptb, ptb_upd, foots_cons, List.mem_cons, World.size_alloc, size_ext, World.size_setCell, true_or, or_true, eq_self_iff_true]))
  case' h =>
    intro w1 O'
    (try clear O)
    have O := O'
    clear O'
    (first | simp only [sel, rst, List.cons_append, List.nil_append, World.size_alloc, size_ext, World.size_setCell, size_setMap, World.size_drew, size_drewN, upd, List.set_cons_zero, List.set_cons_succ, if_true, if_false, reduceIte, not_false_eq_true, ne_lt0, ne_lt1, ne_lt2, ne_lt3, ne_lt4, cs] at O | simp only [sel, rst, List.cons_append, List.nil_append, World.size_alloc, size_ext, World.size_setCell, size_setMap, World.size_drew, size_drewN, upd, List.set_cons_zero, List.set_cons_succ, if_true, if_false, reduceIte, not_false_eq_true, ne_lt0, ne_lt1, ne_lt2, ne_lt3, ne_lt4] at O | skip)
    (try clear cs)
    (try clear v1)
    (try clear v2)
    (try clear v3)
  have cs := O.facts
  simp only [factsP, cellsP, roomP, foots_cons, foots_nil, foots_append, foot_pt, ptb, ptb_mapA, foot_mapA, factsP_mapA, foot_bun, List.append_nil, List.nil_append, List.cons_append, List.nodup_cons, List.nodup_nil, List.mem_cons, List.not_mem_nil, List.mem_singleton, List.forall_mem_cons, not_or, not_false_eq_true, and_true, true_and, or_false, false_or, forall_eq_or_imp, forall_eq, implies_true, Nat.zero_add, Nat.reduceAdd, and_assoc, Prop11.cells, propL] at cs
  have v1 := (H.out.view O.fr).facts
  try simp only [cellsQ, roomP, and_assoc, and_true, true_and, Nat.add_zero, Nat.zero_add, Nat.reduceAdd, factsP, cellsP, roomP, foots_cons, foots_nil, foots_append, foot_pt, ptb, ptb_mapA, foot_mapA, factsP_mapA, foot_bun, List.append_nil, List.nil_append, List.cons_append, List.nodup_cons, List.nodup_nil, List.mem_cons, List.not_mem_nil, List.mem_singleton, List.forall_mem_cons, not_or, not_false_eq_true, and_true, true_and, or_false, false_or, forall_eq_or_imp, forall_eq, implies_true, Nat.zero_add, Nat.reduceAdd, and_assoc, Prop11.cells, propL] at v1
  have v2 := (fun x => LK.out _ (H.out.view (O.ext (x := x)).fr))
  try simp only [cellsQ, roomP, and_assoc, and_true, true_and, Nat.add_zero, Nat.zero_add, Nat.reduceAdd, factsP, cellsP, roomP, foots_cons, foots_nil, foots_append, foot_pt, ptb, ptb_mapA, foot_mapA, factsP_mapA, foot_bun, List.append_nil, List.nil_append, List.cons_append, List.nodup_cons, List.nodup_nil, List.mem_cons, List.not_mem_nil, List.mem_singleton, List.forall_mem_cons, not_or, not_false_eq_true, and_true, true_and, or_false, false_or, forall_eq_or_imp, forall_eq, implies_true, Nat.zero_add, Nat.reduceAdd, and_assoc, Prop11.cells, propL] at v2
  repeat (go_big_quiet_step ((fail)))
  refine wpQuiet_nil ?_
  intro w2 hq
  (try clear cs)
  (try clear v1)
  (try clear v2)
  (try clear v3)
  replace O := O.qext hq
  clear hq
  have cs := O.facts
  simp only [factsP, cellsP, roomP, foots_cons, foots_nil, foots_append, foot_pt, ptb, ptb_mapA, foot_mapA, factsP_mapA, foot_bun, List.append_nil, List.nil_append, List.cons_append, List.nodup_cons, List.nodup_nil, List.mem_cons, List.not_mem_nil, List.mem_singleton, List.forall_mem_cons, not_or, not_false_eq_true, and_true, true_and, or_false, false_or, forall_eq_or_imp, forall_eq, implies_true, Nat.zero_add, Nat.reduceAdd, and_assoc, Prop11.cells, propL] at cs
  have v1 := (H.out.view O.fr).facts
  try simp only [cellsQ, roomP, and_assoc, and_true, true_and, Nat.add_zero, Nat.zero_add, Nat.reduceAdd, factsP, cellsP, roomP, foots_cons, foots_nil, foots_append, foot_pt, ptb, ptb_mapA, foot_mapA, factsP_mapA, foot_bun, List.append_nil, List.nil_append, List.cons_append, List.nodup_cons, List.nodup_nil, List.mem_cons, List.not_mem_nil, List.mem_singleton, List.forall_mem_cons, not_or, not_false_eq_true, and_true, true_and, or_false, false_or, forall_eq_or_imp, forall_eq, implies_true, Nat.zero_add, Nat.reduceAdd, and_assoc, Prop11.cells, propL] at v1
  have v2 := (fun x => LK.out _ (H.out.view (O.ext (x := x)).fr))
  try simp only [cellsQ, roomP, and_assoc, and_true, true_and, Nat.add_zero, Nat.zero_add, Nat.reduceAdd, factsP, cellsP, roomP, foots_cons, foots_nil, foots_append, foot_pt, ptb, ptb_mapA, foot_mapA, factsP_mapA, foot_bun, List.append_nil, List.nil_append, List.cons_append, List.nodup_cons, List.nodup_nil, List.mem_cons, List.not_mem_nil, List.mem_singleton, List.forall_mem_cons, not_or, not_false_eq_true, and_true, true_and, or_false, false_or, forall_eq_or_imp, forall_eq, implies_true, Nat.zero_add, Nat.reduceAdd, and_assoc, Prop11.cells, propL] at v2
  go_wp2_with fail
  go_ret2
  exact ⟨rfl, O.fr0⟩

end Go.Proofs.Ytkhpikjmhamppaa
