/- WALKS: a learner (NewLearner, Accepted, Chosen): it comes to plain functions. -/
import Derived.Test.YtkhpikjmhamppaaProp11
import Derived.Test.YtkhpikjmhamppaaPromise11
import Derived.Test.YtkhpikjmhamppaaRange
set_option linter.unusedVariables false
set_option linter.unusedSimpArgs false
namespace Go.Proofs.Ytkhpikjmhamppaa
open Go.RowKit Go.Tk

structure Said where
  b : Ballot
  v : ByteArray
def Said.val (s : Said) : Value := .agg #[.int .u32 s.b.r, .int .u8 s.b.n, .string s.v]
def Said.same (s t : Said) : Bool := decide (s.b.r = t.b.r ∧ s.b.n = t.b.n ∧ s.v.toList = t.v.toList)
structure Learn11 where
  n : Int
  said : List (Int × Said)
  chosen : ByteArray
  is : Bool
def Learn11.cells (l : Learn11) (mb : Nat) : List Value := [.int .i64 l.n, .map (some mb), .string l.chosen, .bool l.is]
def learnL (lb mb : Nat) (l : Learn11) : List Asn := [.pt lb (l.cells mb) 91, mapA intK Said.val mb l.said]
def newL (n : Int) : Learn11 := ⟨n, [], .empty, false⟩
def told11 (m : List (Int × Said)) (s : Said) : Nat := (m.filter (fun p => p.2.same s)).length
/-- is what was said before not below? -/
def stale11 (m : List (Int × Said)) (f : Int) (b : Ballot) : Bool := match mget m f with | some s => !less s.b b | none => false
def accepted11 (l : Learn11) (f : Int) (b : Ballot) (v : ByteArray) : ByteArray × Bool × Learn11 :=
  if l.is = true ∨ f < 0 ∨ l.n ≤ f ∨ stale11 l.said f b = true then (.empty, false, l) else
  if (told11 (mset l.said f ⟨b, v⟩) ⟨b, v⟩ : Int) ≤ l.n / 2 then (.empty, false, ⟨l.n, mset l.said f ⟨b, v⟩, l.chosen, l.is⟩) else (v, true, ⟨l.n, mset l.said f ⟨b, v⟩, v, true⟩)
def zeroSaid : Said := ⟨noB, .empty⟩
theorem zeroSaid_run (w : World) : (zeroValue 93).run Try.prog w = .ok zeroSaid.val w := by kernel_rfl

set_option maxRecDepth 100000 in
set_option maxHeartbeats 4000000 in
theorem learn_New (n : Int) (w : World) (h : 1 ≤ n ∧ n ≤ 9) : Calls Try.prog 14 #[.int .i64 n] w (fun e w' => e = .returned (.tuple #[.pointer (some ⟨w.heap.size + 1, 0, none⟩), .int .i64 0]) ∧ Mem w [] w' (learnL (w.heap.size + 1) w.heap.size (newL n))) := by
  obtain ⟨h1, h2⟩ := h
  have O : Mem w [] w [] := Mem.begin
  have hmm := @run_makeMap Try.prog
  go_enter Try.func14, Try.ntmps14
  go_wp2
  go_ret2
  refine ⟨rfl, ?_⟩
  have O2 := (O.newMap (κ := intK) (vv := Said.val)).alloc [.int .i64 n, .map (some w.heap.size), .string .empty, .bool false] 91
  rw [World.size_alloc] at O2
  exact O2
set_option maxRecDepth 100000 in
set_option maxHeartbeats 4000000 in
theorem learn_New_bad (n : Int) (w : World) (h : ¬ (1 ≤ n ∧ n ≤ 9)) : Calls Try.prog 14 #[.int .i64 n] w (fun e w' => e = .returned (.tuple #[.pointer none, .int .i64 1]) ∧ w' = w) := by
  have hc : n < 1 ∨ (1 ≤ n ∧ 9 < n) := by omega
  clear h
  rcases hc with h | ⟨h, h2⟩
  all_goals
    go_enter Try.func14, Try.ntmps14
    go_wp2
    go_ret2
    exact ⟨rfl, rfl⟩
set_option maxRecDepth 100000 in
set_option maxHeartbeats 4000000 in
theorem learn_Chosen (w : World) (lb mb : Nat) (l : Learn11) (h : Pre w (learnL lb mb l)) : Calls Try.prog 16 #[.pointer (some ⟨lb, 0, none⟩)] w (fun e w' => e = .returned (.tuple #[.string l.chosen, .bool l.is]) ∧ Mem w [] w' []) := by
  have H := Lib.hid h
  clear h
  have O : Mem w [] w [] := Mem.begin
  skip
  go_enter Try.func16, Try.ntmps16
  have cs := O.facts
  simp only [factsP, cellsP, roomP, foots_cons, foots_nil, foots_append, foot_pt, ptb, ptb_mapA, foot_mapA, factsP_mapA, foot_bun, List.append_nil, List.nil_append, List.cons_append, List.nodup_cons, List.nodup_nil, List.mem_cons, List.not_mem_nil, List.mem_singleton, List.forall_mem_cons, not_or, not_false_eq_true, and_true, true_and, or_false, false_or, forall_eq_or_imp, forall_eq, implies_true, Nat.zero_add, Nat.reduceAdd, and_assoc, Learn11.cells, learnL, ptb_iterA, factsP_iterA] at cs
  have v1 := (H.out.view O.fr).facts
  try simp only [cellsQ, roomP, and_assoc, and_true, true_and, Nat.add_zero, Nat.zero_add, Nat.reduceAdd, factsP, cellsP, roomP, foots_cons, foots_nil, foots_append, foot_pt, ptb, ptb_mapA, foot_mapA, factsP_mapA, foot_bun, List.append_nil, List.nil_append, List.cons_append, List.nodup_cons, List.nodup_nil, List.mem_cons, List.not_mem_nil, List.mem_singleton, List.forall_mem_cons, not_or, not_false_eq_true, and_true, true_and, or_false, false_or, forall_eq_or_imp, forall_eq, implies_true, Nat.zero_add, Nat.reduceAdd, and_assoc, Learn11.cells, learnL, ptb_iterA, factsP_iterA] at v1
  go_wp2_with fail
  apply region_held_mem [] (by kernel_rfl)
  case O => repeat' (first | (with_reducible exact O) | (with_reducible apply Mem.drew) | (with_reducible apply Mem.drewN) | (with_reducible apply Mem.ext) | (with_reducible apply Mem.alloc) | (with_reducible apply Mem.setCell) | (with_reducible apply Mem.newMap (κ := intK) (vv := Said.val)) | (simp only [ptb, ptb_upd, foots_cons, List.mem_cons, World.size_alloc, size_ext, World.size_setCell, true_or, or_true, eq_self_iff_true]))
  case' h =>
    intro wr2 O'
    (try clear O)
    have O := O'
    clear O'
    (first | simp only [sel, rst, List.cons_append, List.nil_append, World.size_alloc, size_ext, World.size_setCell, size_setMap, World.size_drew, size_drewN, upd, List.set_cons_zero, List.set_cons_succ, if_true, if_false, reduceIte, not_false_eq_true, ne_lt0, ne_lt1, ne_lt2, ne_lt3, ne_lt4, cs] at O | simp only [sel, rst, List.cons_append, List.nil_append, World.size_alloc, size_ext, World.size_setCell, size_setMap, World.size_drew, size_drewN, upd, List.set_cons_zero, List.set_cons_succ, if_true, if_false, reduceIte, not_false_eq_true, ne_lt0, ne_lt1, ne_lt2, ne_lt3, ne_lt4] at O | skip)
    (try clear cs)
    (try clear v1)
    (try clear v2)
    (try clear v3)
  refine takeH (i := 0) (v := ?v2_1) rfl (by kernel_rfl) (by kernel_rfl) (by kernel_rfl) (fun _ _ _ h => h) (by rfl) ?y2_1 (O.sel []) ?r2_1
  case y2_1 =>
    intro WW hSw
    (go_simp) <;> (with_reducible rfl)
  case' r2_1 =>
    try simp only [Act.put, List.setIfInBounds_toArray, List.set_cons_zero, List.set_cons_succ]
  refine takeH (i := 1) (v := ?v2_2) rfl (by kernel_rfl) (by kernel_rfl) (by kernel_rfl) (fun _ _ _ h => h) (by rfl) ?y2_2 (O.sel []) ?r2_2
  case y2_2 =>
    intro WW hSw
    (go_simp) <;> (with_reducible rfl)
  case' r2_2 =>
    try simp only [Act.put, List.setIfInBounds_toArray, List.set_cons_zero, List.set_cons_succ]
  refine takeH (i := 2) (v := ?v2_3) rfl (by kernel_rfl) (by kernel_rfl) (by kernel_rfl) (fun _ _ _ h => h) (by rfl) ?y2_3 (O.sel []) ?r2_3
  case y2_3 =>
    intro WW hSw
    (go_simp) <;> (with_reducible rfl)
  case' r2_3 =>
    try simp only [Act.put, List.setIfInBounds_toArray, List.set_cons_zero, List.set_cons_succ]
  refine takeH (i := 3) (v := ?v2_4) rfl (by kernel_rfl) (by kernel_rfl) (by kernel_rfl) (fun _ _ _ h => h) (by rfl) ?y2_4 (O.sel []) ?r2_4
  case y2_4 =>
    intro WW hSw
    replace hSw : Mem _ _ WW _ := hSw
    have cs := hSw.facts
    simp only [sel, factsP, cellsP, roomP, foots_cons, foots_nil, foots_append, foot_pt, ptb, ptb_mapA, foot_mapA, factsP_mapA, foot_bun, List.append_nil, List.nil_append, List.cons_append, List.nodup_cons, List.nodup_nil, List.mem_cons, List.not_mem_nil, List.mem_singleton, List.forall_mem_cons, not_or, not_false_eq_true, and_true, true_and, or_false, false_or, forall_eq_or_imp, forall_eq, implies_true, Nat.zero_add, Nat.reduceAdd, and_assoc, Learn11.cells, learnL, ptb_iterA, factsP_iterA] at cs
    have v1 := (H.out.view hSw.fr).facts
    try simp only [cellsQ, roomP, and_assoc, and_true, true_and, Nat.add_zero, Nat.zero_add, Nat.reduceAdd, factsP, cellsP, roomP, foots_cons, foots_nil, foots_append, foot_pt, ptb, ptb_mapA, foot_mapA, factsP_mapA, foot_bun, List.append_nil, List.nil_append, List.cons_append, List.nodup_cons, List.nodup_nil, List.mem_cons, List.not_mem_nil, List.mem_singleton, List.forall_mem_cons, not_or, not_false_eq_true, and_true, true_and, or_false, false_or, forall_eq_or_imp, forall_eq, implies_true, Nat.zero_add, Nat.reduceAdd, and_assoc, Learn11.cells, learnL, ptb_iterA, factsP_iterA] at v1
    (go_simp) <;> (with_reducible rfl)
  case' r2_4 =>
    try simp only [Act.put, List.setIfInBounds_toArray, List.set_cons_zero, List.set_cons_succ]
  refine takeH (i := 4) (v := ?v2_5) rfl (by kernel_rfl) (by kernel_rfl) (by kernel_rfl) (fun _ _ _ h => h) (by rfl) ?y2_5 (O.sel []) ?r2_5
  case y2_5 =>
    intro WW hSw
    (go_simp) <;> (with_reducible rfl)
  case' r2_5 =>
    try simp only [Act.put, List.setIfInBounds_toArray, List.set_cons_zero, List.set_cons_succ]
  refine takeH (i := 5) (v := ?v2_6) rfl (by kernel_rfl) (by kernel_rfl) (by kernel_rfl) (fun _ _ _ h => h) (by rfl) ?y2_6 (O.sel []) ?r2_6
  case y2_6 =>
    intro WW hSw
    (go_simp) <;> (with_reducible rfl)
  case' r2_6 =>
    try simp only [Act.put, List.setIfInBounds_toArray, List.set_cons_zero, List.set_cons_succ]
  refine takeH (i := 6) (v := ?v2_7) rfl (by kernel_rfl) (by kernel_rfl) (by kernel_rfl) (fun _ _ _ h => h) (by rfl) ?y2_7 (O.sel []) ?r2_7
  case y2_7 =>
    intro WW hSw
    (go_simp) <;> (with_reducible rfl)
  case' r2_7 =>
    try simp only [Act.put, List.setIfInBounds_toArray, List.set_cons_zero, List.set_cons_succ]
  refine takeH (i := 7) (v := ?v2_8) rfl (by kernel_rfl) (by kernel_rfl) (by kernel_rfl) (fun _ _ _ h => h) (by rfl) ?y2_8 (O.sel []) ?r2_8
  case y2_8 =>
    intro WW hSw
    replace hSw : Mem _ _ WW _ := hSw
    have cs := hSw.facts
    simp only [sel, factsP, cellsP, roomP, foots_cons, foots_nil, foots_append, foot_pt, ptb, ptb_mapA, foot_mapA, factsP_mapA, foot_bun, List.append_nil, List.nil_append, List.cons_append, List.nodup_cons, List.nodup_nil, List.mem_cons, List.not_mem_nil, List.mem_singleton, List.forall_mem_cons, not_or, not_false_eq_true, and_true, true_and, or_false, false_or, forall_eq_or_imp, forall_eq, implies_true, Nat.zero_add, Nat.reduceAdd, and_assoc, Learn11.cells, learnL, ptb_iterA, factsP_iterA] at cs
    have v1 := (H.out.view hSw.fr).facts
    try simp only [cellsQ, roomP, and_assoc, and_true, true_and, Nat.add_zero, Nat.zero_add, Nat.reduceAdd, factsP, cellsP, roomP, foots_cons, foots_nil, foots_append, foot_pt, ptb, ptb_mapA, foot_mapA, factsP_mapA, foot_bun, List.append_nil, List.nil_append, List.cons_append, List.nodup_cons, List.nodup_nil, List.mem_cons, List.not_mem_nil, List.mem_singleton, List.forall_mem_cons, not_or, not_false_eq_true, and_true, true_and, or_false, false_or, forall_eq_or_imp, forall_eq, implies_true, Nat.zero_add, Nat.reduceAdd, and_assoc, Learn11.cells, learnL, ptb_iterA, factsP_iterA] at v1
    (go_simp) <;> (with_reducible rfl)
  case' r2_8 =>
    try simp only [Act.put, List.setIfInBounds_toArray, List.set_cons_zero, List.set_cons_succ]
  refine takeH (i := 8) (v := ?v2_9) rfl (by kernel_rfl) (by kernel_rfl) (by kernel_rfl) (fun _ _ _ h => h) (by rfl) ?y2_9 (O.sel []) ?r2_9
  case y2_9 =>
    intro WW hSw
    (go_simp) <;> (with_reducible rfl)
  case' r2_9 =>
    try simp only [Act.put, List.setIfInBounds_toArray, List.set_cons_zero, List.set_cons_succ]
  refine takeH (i := 9) (v := ?v2_10) rfl (by kernel_rfl) (by kernel_rfl) (by kernel_rfl) (fun _ _ _ h => h) (by rfl) ?y2_10 (O.sel []) ?r2_10
  case y2_10 =>
    intro WW hSw
    (go_simp) <;> (with_reducible rfl)
  case' r2_10 =>
    try simp only [Act.put, List.setIfInBounds_toArray, List.set_cons_zero, List.set_cons_succ]
  refine wpAnyH_done (by kernel_rfl) ?_ _
  have cs := O.facts
  simp only [factsP, cellsP, roomP, foots_cons, foots_nil, foots_append, foot_pt, ptb, ptb_mapA, foot_mapA, factsP_mapA, foot_bun, List.append_nil, List.nil_append, List.cons_append, List.nodup_cons, List.nodup_nil, List.mem_cons, List.not_mem_nil, List.mem_singleton, List.forall_mem_cons, not_or, not_false_eq_true, and_true, true_and, or_false, false_or, forall_eq_or_imp, forall_eq, implies_true, Nat.zero_add, Nat.reduceAdd, and_assoc, Learn11.cells, learnL, ptb_iterA, factsP_iterA] at cs
  have v1 := (H.out.view O.fr).facts
  try simp only [cellsQ, roomP, and_assoc, and_true, true_and, Nat.add_zero, Nat.zero_add, Nat.reduceAdd, factsP, cellsP, roomP, foots_cons, foots_nil, foots_append, foot_pt, ptb, ptb_mapA, foot_mapA, factsP_mapA, foot_bun, List.append_nil, List.nil_append, List.cons_append, List.nodup_cons, List.nodup_nil, List.mem_cons, List.not_mem_nil, List.mem_singleton, List.forall_mem_cons, not_or, not_false_eq_true, and_true, true_and, or_false, false_or, forall_eq_or_imp, forall_eq, implies_true, Nat.zero_add, Nat.reduceAdd, and_assoc, Learn11.cells, learnL, ptb_iterA, factsP_iterA] at v1
  go_wp2_with fail
  go_ret2
  exact ⟨rfl, O.fr0⟩
set_option maxRecDepth 100000 in
set_option maxHeartbeats 4000000 in
theorem learn_Accepted_no (w : World) (lb mb : Nat) (l : Learn11) (f : Int) (b : Ballot) (v : ByteArray) (h : Pre w (learnL lb mb l)) (hn : l.is = true ∨ f < 0 ∨ l.n ≤ f) :
    Calls Try.prog 15 #[.pointer (some ⟨lb, 0, none⟩), .int .i64 f, b.val, .string v] w (fun e w' => e = .returned (.tuple #[.string .empty, .bool false]) ∧ Mem w [] w' []) := by
  have H := Lib.hid h
  clear h
  obtain ⟨n, said, chosen, is⟩ := l
  simp only at hn
  obtain ⟨br, bn⟩ := b
  simp only [Ballot.val]
  have O : Mem w [] w [] := Mem.begin
  have hc : is = true ∨ (is = false ∧ f < 0) ∨ (is = false ∧ ¬ f < 0 ∧ n ≤ f) := by
    cases is <;> simp at hn ⊢
    omega
  clear hn
  skip
  rcases hc with rfl | ⟨rfl, h1⟩ | ⟨rfl, h1, h2⟩
  all_goals
    go_enter Try.func15, Try.ntmps15
    have cs := O.facts
    simp only [factsP, cellsP, roomP, foots_cons, foots_nil, foots_append, foot_pt, ptb, ptb_mapA, foot_mapA, factsP_mapA, foot_bun, List.append_nil, List.nil_append, List.cons_append, List.nodup_cons, List.nodup_nil, List.mem_cons, List.not_mem_nil, List.mem_singleton, List.forall_mem_cons, not_or, not_false_eq_true, and_true, true_and, or_false, false_or, forall_eq_or_imp, forall_eq, implies_true, Nat.zero_add, Nat.reduceAdd, and_assoc, Learn11.cells, learnL, ptb_iterA, factsP_iterA] at cs
    have v1 := (H.out.view O.fr).facts
    try simp only [cellsQ, roomP, and_assoc, and_true, true_and, Nat.add_zero, Nat.zero_add, Nat.reduceAdd, factsP, cellsP, roomP, foots_cons, foots_nil, foots_append, foot_pt, ptb, ptb_mapA, foot_mapA, factsP_mapA, foot_bun, List.append_nil, List.nil_append, List.cons_append, List.nodup_cons, List.nodup_nil, List.mem_cons, List.not_mem_nil, List.mem_singleton, List.forall_mem_cons, not_or, not_false_eq_true, and_true, true_and, or_false, false_or, forall_eq_or_imp, forall_eq, implies_true, Nat.zero_add, Nat.reduceAdd, and_assoc, Learn11.cells, learnL, ptb_iterA, factsP_iterA] at v1
    go_wp2_with fail
    go_ret2
    refine ⟨rfl, ?_⟩
    apply Mem.to []
    · repeat' (first | (with_reducible exact O) | (with_reducible apply Mem.drew) | (with_reducible apply Mem.drewN) | (with_reducible apply Mem.ext) | (with_reducible apply Mem.alloc) | (with_reducible apply Mem.setCell) | (with_reducible apply Mem.newMap (κ := intK) (vv := Said.val)) | (simp only [ptb, ptb_upd, foots_cons, List.mem_cons, World.size_alloc, size_ext, World.size_setCell, true_or, or_true, eq_self_iff_true]))
    · first | with_reducible rfl | (simp only [sel, rst, List.cons_append, List.nil_append, World.size_alloc, size_ext, World.size_setCell, size_setMap, World.size_drew, size_drewN, upd, List.set_cons_zero, List.set_cons_succ, if_true, if_false, reduceIte, not_false_eq_true, ne_lt0, ne_lt1, ne_lt2, ne_lt3, ne_lt4, cs]; done) | (simp only [sel, rst, List.cons_append, List.nil_append, World.size_alloc, size_ext, World.size_setCell, size_setMap, World.size_drew, size_drewN, upd, List.set_cons_zero, List.set_cons_succ, if_true, if_false, reduceIte, not_false_eq_true, ne_lt0, ne_lt1, ne_lt2, ne_lt3, ne_lt4]; done) | (simp only [sel, rst, List.cons_append, List.nil_append, World.size_alloc, size_ext, World.size_setCell, size_setMap, World.size_drew, size_drewN, upd, List.set_cons_zero, List.set_cons_succ, if_true, if_false, reduceIte, not_false_eq_true, ne_lt0, ne_lt1, ne_lt2, ne_lt3, ne_lt4, cs]; rfl) | (simp only [sel, rst, List.cons_append, List.nil_append, World.size_alloc, size_ext, World.size_setCell, size_setMap, World.size_drew, size_drewN, upd, List.set_cons_zero, List.set_cons_succ, if_true, if_false, reduceIte, not_false_eq_true, ne_lt0, ne_lt1, ne_lt2, ne_lt3, ne_lt4]; rfl)
end Go.Proofs.Ytkhpikjmhamppaa
