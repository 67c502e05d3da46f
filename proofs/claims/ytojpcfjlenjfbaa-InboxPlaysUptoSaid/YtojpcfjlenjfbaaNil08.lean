/- WALKS: no inbox, no calls: what their methods answer. -/
import Derived.Test.YtojpcfjlenjfbaaCall08
set_option linter.unusedVariables false
set_option linter.unusedSimpArgs false
namespace Go.Proofs.Ytojpcfjlenjfbaa
open Go.RowKit Go.Tk
def noPack : Value := .agg #[.int .u64 0, .int .i64 0, .int .i64 0, .slice none 0 0]
def noCall : Value := .agg #[.int .u64 0, .int .i64 0, .int .i64 0, .int .i64 0, .int .i64 0]
set_option maxRecDepth 100000 in
theorem b_nil_Len (w : World) : Calls Try.prog 15 #[.pointer none] w (fun e w' => e = .returned (.int .i64 0) ∧ Mem w [] w' []) := by
  have O : Mem w [] w [] := Mem.begin
  go_enter Try.func15, Try.ntmps15
  have cs := O.facts
  try simp only [factsP, cellsP, roomP, foots_cons, foots_nil, foots_append, foot_pt, ptb, ptb_mapA, foot_mapA, factsP_mapA, foot_bun, List.append_nil, List.nil_append, List.cons_append, List.nodup_cons, List.nodup_nil, List.mem_cons, List.not_mem_nil, List.mem_singleton, List.forall_mem_cons, not_or, not_false_eq_true, and_true, true_and, or_false, false_or, forall_eq_or_imp, forall_eq, implies_true, Nat.zero_add, Nat.reduceAdd, and_assoc, ptb_listA, factsP_listA, factsP_mapA, ptb_mapA, Nat.mul_one] at cs
  go_wp2_with fail
  go_ret
  exact ⟨rfl, O⟩
set_option maxRecDepth 100000 in
theorem b_nil_Put (w : World) (a b c d : Value) : Calls Try.prog 12 #[.pointer none, .agg #[a, b, c, d]] w (fun e w' => e = .returned (.int .i64 1) ∧ Mem w [] w' []) := by
  have O : Mem w [] w [] := Mem.begin
  go_enter Try.func12, Try.ntmps12
  have cs := O.facts
  try simp only [factsP, cellsP, roomP, foots_cons, foots_nil, foots_append, foot_pt, ptb, ptb_mapA, foot_mapA, factsP_mapA, foot_bun, List.append_nil, List.nil_append, List.cons_append, List.nodup_cons, List.nodup_nil, List.mem_cons, List.not_mem_nil, List.mem_singleton, List.forall_mem_cons, not_or, not_false_eq_true, and_true, true_and, or_false, false_or, forall_eq_or_imp, forall_eq, implies_true, Nat.zero_add, Nat.reduceAdd, and_assoc, ptb_listA, factsP_listA, factsP_mapA, ptb_mapA, Nat.mul_one] at cs
  go_wp2_with fail
  go_ret
  first | exact ⟨rfl, O⟩ | exact ⟨rfl, (O.alloc _ _).fr0⟩ | exact ⟨rfl, (O.alloc_ _)⟩
set_option maxRecDepth 100000 in
theorem b_nil_Take (w : World) : Calls Try.prog 13 #[.pointer none] w (fun e w' => e = .returned (.tuple #[noPack, .bool false]) ∧ Mem w [] w' []) := by
  have O : Mem w [] w [] := Mem.begin
  go_enter Try.func13, Try.ntmps13
  have cs := O.facts
  try simp only [factsP, cellsP, roomP, foots_cons, foots_nil, foots_append, foot_pt, ptb, ptb_mapA, foot_mapA, factsP_mapA, foot_bun, List.append_nil, List.nil_append, List.cons_append, List.nodup_cons, List.nodup_nil, List.mem_cons, List.not_mem_nil, List.mem_singleton, List.forall_mem_cons, not_or, not_false_eq_true, and_true, true_and, or_false, false_or, forall_eq_or_imp, forall_eq, implies_true, Nat.zero_add, Nat.reduceAdd, and_assoc, ptb_listA, factsP_listA, factsP_mapA, ptb_mapA, Nat.mul_one] at cs
  go_wp2_with fail
  refine bodyPost_ret (v := .tuple #[noPack, .bool false]) (by simp [results, Try.results13, go_sem, noPack]) rfl ⟨rfl, ?_⟩
  apply Mem.to [false]
  · repeat' (first | (with_reducible exact O) | (with_reducible apply Mem.drew) | (with_reducible apply Mem.drewN) | (with_reducible apply Mem.ext) | (with_reducible apply Mem.alloc) | (with_reducible apply Mem.setCell) | (simp only [ptb, ptb_upd, foots_cons, List.mem_cons, World.size_alloc, size_ext, World.size_setCell, true_or, or_true, eq_self_iff_true, ptb_listA, ptb_mapA]))
  · first | with_reducible rfl | (simp only [sel, rst, List.cons_append, List.nil_append, World.size_alloc, size_ext, World.size_setCell, size_setMap, World.size_drew, size_drewN, upd, List.set_cons_zero, List.set_cons_succ, if_true, if_false, reduceIte, not_false_eq_true, ne_lt0, ne_lt1, ne_lt2, ne_lt3, ne_lt4, cs]; done) | (simp only [sel, rst, List.cons_append, List.nil_append, World.size_alloc, size_ext, World.size_setCell, size_setMap, World.size_drew, size_drewN, upd, List.set_cons_zero, List.set_cons_succ, if_true, if_false, reduceIte, not_false_eq_true, ne_lt0, ne_lt1, ne_lt2, ne_lt3, ne_lt4]; done) | (simp only [sel, rst, List.cons_append, List.nil_append, World.size_alloc, size_ext, World.size_setCell, size_setMap, World.size_drew, size_drewN, upd, List.set_cons_zero, List.set_cons_succ, if_true, if_false, reduceIte, not_false_eq_true, ne_lt0, ne_lt1, ne_lt2, ne_lt3, ne_lt4, cs]; rfl) | (simp only [sel, rst, List.cons_append, List.nil_append, World.size_alloc, size_ext, World.size_setCell, size_setMap, World.size_drew, size_drewN, upd, List.set_cons_zero, List.set_cons_succ, if_true, if_false, reduceIte, not_false_eq_true, ne_lt0, ne_lt1, ne_lt2, ne_lt3, ne_lt4]; rfl)
set_option maxRecDepth 100000 in
theorem c_nil_Open (w : World) (a b : Value) : Calls Try.prog 24 #[.pointer none, a, b] w (fun e w' => e = .returned (.tuple #[.int .u64 0, .int .i64 1]) ∧ Mem w [] w' []) := by
  have O : Mem w [] w [] := Mem.begin
  go_enter Try.func24, Try.ntmps24
  have cs := O.facts
  try simp only [factsP, cellsP, roomP, foots_cons, foots_nil, foots_append, foot_pt, ptb, ptb_mapA, foot_mapA, factsP_mapA, foot_bun, List.append_nil, List.nil_append, List.cons_append, List.nodup_cons, List.nodup_nil, List.mem_cons, List.not_mem_nil, List.mem_singleton, List.forall_mem_cons, not_or, not_false_eq_true, and_true, true_and, or_false, false_or, forall_eq_or_imp, forall_eq, implies_true, Nat.zero_add, Nat.reduceAdd, and_assoc, ptb_listA, factsP_listA, factsP_mapA, ptb_mapA, Nat.mul_one] at cs
  go_wp2_with fail
  go_ret2
  exact ⟨rfl, O⟩
set_option maxRecDepth 100000 in
theorem c_nil_Next (w : World) : Calls Try.prog 19 #[.pointer none] w (fun e w' => e = .returned (.tuple #[.int .i64 0, .bool false]) ∧ Mem w [] w' []) := by
  have O : Mem w [] w [] := Mem.begin
  go_enter Try.func19, Try.ntmps19
  have cs := O.facts
  try simp only [factsP, cellsP, roomP, foots_cons, foots_nil, foots_append, foot_pt, ptb, ptb_mapA, foot_mapA, factsP_mapA, foot_bun, List.append_nil, List.nil_append, List.cons_append, List.nodup_cons, List.nodup_nil, List.mem_cons, List.not_mem_nil, List.mem_singleton, List.forall_mem_cons, not_or, not_false_eq_true, and_true, true_and, or_false, false_or, forall_eq_or_imp, forall_eq, implies_true, Nat.zero_add, Nat.reduceAdd, and_assoc, ptb_listA, factsP_listA, factsP_mapA, ptb_mapA, Nat.mul_one] at cs
  go_wp2_with fail
  go_ret2
  exact ⟨rfl, O⟩
set_option maxRecDepth 100000 in
theorem c_nil_List (w : World) : Calls Try.prog 22 #[.pointer none] w (fun e w' => e = .returned (.slice none 0 0) ∧ Mem w [] w' []) := by
  have O : Mem w [] w [] := Mem.begin
  go_enter Try.func22, Try.ntmps22
  have cs := O.facts
  try simp only [factsP, cellsP, roomP, foots_cons, foots_nil, foots_append, foot_pt, ptb, ptb_mapA, foot_mapA, factsP_mapA, foot_bun, List.append_nil, List.nil_append, List.cons_append, List.nodup_cons, List.nodup_nil, List.mem_cons, List.not_mem_nil, List.mem_singleton, List.forall_mem_cons, not_or, not_false_eq_true, and_true, true_and, or_false, false_or, forall_eq_or_imp, forall_eq, implies_true, Nat.zero_add, Nat.reduceAdd, and_assoc, ptb_listA, factsP_listA, factsP_mapA, ptb_mapA, Nat.mul_one] at cs
  go_wp2_with fail
  go_ret
  exact ⟨rfl, O⟩
set_option maxRecDepth 100000 in
theorem c_nil_Due (w : World) : Calls Try.prog 26 #[.pointer none, .int .i64 3] w (fun e w' => e = .returned (.tuple #[.slice none 0 0, .slice none 0 0]) ∧ Mem w [] w' []) := by
  have O : Mem w [] w [] := Mem.begin
  go_enter Try.func26, Try.ntmps26
  have cs := O.facts
  try simp only [factsP, cellsP, roomP, foots_cons, foots_nil, foots_append, foot_pt, ptb, ptb_mapA, foot_mapA, factsP_mapA, foot_bun, List.append_nil, List.nil_append, List.cons_append, List.nodup_cons, List.nodup_nil, List.mem_cons, List.not_mem_nil, List.mem_singleton, List.forall_mem_cons, not_or, not_false_eq_true, and_true, true_and, or_false, false_or, forall_eq_or_imp, forall_eq, implies_true, Nat.zero_add, Nat.reduceAdd, and_assoc, ptb_listA, factsP_listA, factsP_mapA, ptb_mapA, Nat.mul_one] at cs
  go_wp2_with fail
  go_ret2
  first | exact ⟨rfl, O⟩ | exact ⟨rfl, (O.alloc _ _).fr0⟩ | exact ⟨rfl, (O.alloc_ _)⟩
def faultCells : List Value := [.int .i64 1, .string ⟨#[99, 97, 108, 108]⟩]
set_option maxRecDepth 100000 in
theorem c_nil_Close (w : World) (id : Value) : Calls Try.prog 25 #[.pointer none, id] w (fun e w' => ∃ fb, e = .returned (.tuple #[noCall, .iface 97 (.pointer (some ⟨fb, 0, none⟩))]) ∧ Mem w [] w' [.pt fb faultCells 99]) := by
  have O : Mem w [] w [] := Mem.begin
  go_enter Try.func25, Try.ntmps25
  have cs := O.facts
  try simp only [factsP, cellsP, roomP, foots_cons, foots_nil, foots_append, foot_pt, ptb, ptb_mapA, foot_mapA, factsP_mapA, foot_bun, List.append_nil, List.nil_append, List.cons_append, List.nodup_cons, List.nodup_nil, List.mem_cons, List.not_mem_nil, List.mem_singleton, List.forall_mem_cons, not_or, not_false_eq_true, and_true, true_and, or_false, false_or, forall_eq_or_imp, forall_eq, implies_true, Nat.zero_add, Nat.reduceAdd, and_assoc, ptb_listA, factsP_listA, factsP_mapA, ptb_mapA, Nat.mul_one] at cs
  go_wp2_with fail
  have O := ((O.alloc [.int .u64 0, .int .i64 0, .int .i64 0, .int .i64 0, .int .i64 0] 70).alloc faultCells 99).sel [true, false]
  refine bodyPost_ret (v := .tuple #[noCall, .iface 97 (.pointer (some ⟨w.heap.size + 1, 0, none⟩))]) (by simp [results, Try.results25, go_sem, noCall]) rfl ⟨_, rfl, ?_⟩
  rw [World.size_alloc] at O
  exact O
set_option maxRecDepth 100000 in
theorem f_Unwrap (w : World) (fb : Nat) (h : Pre w [.pt fb faultCells 99]) : Calls Try.prog 41 #[.pointer (some ⟨fb, 0, none⟩)] w (fun e w' => e = .returned (.iface 27 (.int .i64 1)) ∧ Mem w [] w' []) := by
  have H := Lib.hid h
  have O : Mem w [] w [] := Mem.begin
  clear h
  simp only [faultCells] at H
  go_enter Try.func41, Try.ntmps41
  skip
  have cs := O.facts
  try simp only [factsP, cellsP, roomP, foots_cons, foots_nil, foots_append, foot_pt, ptb, ptb_mapA, foot_mapA, factsP_mapA, foot_bun, List.append_nil, List.nil_append, List.cons_append, List.nodup_cons, List.nodup_nil, List.mem_cons, List.not_mem_nil, List.mem_singleton, List.forall_mem_cons, not_or, not_false_eq_true, and_true, true_and, or_false, false_or, forall_eq_or_imp, forall_eq, implies_true, Nat.zero_add, Nat.reduceAdd, and_assoc, ptb_listA, factsP_listA, factsP_mapA, ptb_mapA, Nat.mul_one] at cs
  have v1 := (H.out.view O.fr).facts
  try simp only [cellsQ, roomP, and_assoc, and_true, true_and, Nat.add_zero, Nat.zero_add, Nat.reduceAdd, factsP, cellsP, roomP, foots_cons, foots_nil, foots_append, foot_pt, ptb, ptb_mapA, foot_mapA, factsP_mapA, foot_bun, List.append_nil, List.nil_append, List.cons_append, List.nodup_cons, List.nodup_nil, List.mem_cons, List.not_mem_nil, List.mem_singleton, List.forall_mem_cons, not_or, not_false_eq_true, and_true, true_and, or_false, false_or, forall_eq_or_imp, forall_eq, implies_true, Nat.zero_add, Nat.reduceAdd, and_assoc, ptb_listA, factsP_listA, factsP_mapA, ptb_mapA, Nat.mul_one] at v1
  go_wp2_with fail
  go_ret
  exact ⟨rfl, O⟩
set_option maxRecDepth 100000 in
set_option maxHeartbeats 4000000 in
theorem q_fault (w : World) (fb : Nat) (h : Pre w [.pt fb faultCells 99]) : Calls Try.prog 27 #[.iface 97 (.pointer (some ⟨fb, 0, none⟩))] w (fun e w' => e = .returned (.tuple #[.int .i64 1, .bool true]) ∧ Mem w (foots [.pt fb faultCells 99]) w' [.pt fb faultCells 99]) := by
  have O : Mem w (foots [.pt fb faultCells 99]) w [.pt fb faultCells 99] := h
  generalize foots [.pt fb faultCells 99] = fp at O ⊢
  clear h
  have CU := Lib.hid (fun W hW => f_Unwrap W fb hW)
  simp only [faultCells] at O ⊢ CU
  go_enter Try.func27, Try.ntmps27
  have TA : ∀ W, (Instr.typeAssert (.iface 97 (.pointer (some ⟨fb, 0, none⟩))) 72 97 true).run Try.prog W = .ok (.tuple #[.pointer (some ⟨fb, 0, none⟩), .bool true]) W := fun W => by kernel_rfl
  have EQ : ∀ W, (binOp .eql 72 (.iface 27 (.int .i64 1)) (.iface 27 (.int .i64 1))).run Try.prog W = .ok (.bool true) W := fun W => by kernel_rfl
  skip
  have cs := O.facts
  try simp only [factsP, cellsP, roomP, foots_cons, foots_nil, foots_append, foot_pt, ptb, ptb_mapA, foot_mapA, factsP_mapA, foot_bun, List.append_nil, List.nil_append, List.cons_append, List.nodup_cons, List.nodup_nil, List.mem_cons, List.not_mem_nil, List.mem_singleton, List.forall_mem_cons, not_or, not_false_eq_true, and_true, true_and, or_false, false_or, forall_eq_or_imp, forall_eq, implies_true, Nat.zero_add, Nat.reduceAdd, and_assoc, ptb_listA, factsP_listA, factsP_mapA, ptb_mapA, Nat.mul_one] at cs
  go_upto_region 6 with fail
  apply region_held_mem [true] (by kernel_rfl)
  case O => repeat' (first | (with_reducible exact O) | (with_reducible apply Mem.drew) | (with_reducible apply Mem.drewN) | (with_reducible apply Mem.ext) | (with_reducible apply Mem.alloc) | (with_reducible apply Mem.setCell) | (simp only [ptb, ptb_upd, foots_cons, List.mem_cons, World.size_alloc, size_ext, World.size_setCell, true_or, or_true, eq_self_iff_true, ptb_listA, ptb_mapA]))
  case' h =>
    intro wr1 O'
    (try clear O)
    have O := O'
    clear O'
    (first | simp only [sel, rst, List.cons_append, List.nil_append, World.size_alloc, size_ext, World.size_setCell, size_setMap, World.size_drew, size_drewN, upd, List.set_cons_zero, List.set_cons_succ, if_true, if_false, reduceIte, not_false_eq_true, ne_lt0, ne_lt1, ne_lt2, ne_lt3, ne_lt4, cs] at O | simp only [sel, rst, List.cons_append, List.nil_append, World.size_alloc, size_ext, World.size_setCell, size_setMap, World.size_drew, size_drewN, upd, List.set_cons_zero, List.set_cons_succ, if_true, if_false, reduceIte, not_false_eq_true, ne_lt0, ne_lt1, ne_lt2, ne_lt3, ne_lt4] at O | skip)
    (try clear cs)
    (try clear v1)
    (try clear v2)
    (try clear v3)
  refine takeH (i := 0) (v := ?v1_1) rfl (by kernel_rfl) (by kernel_rfl) (by kernel_rfl) (fun _ _ _ h => h) (by rfl) ?y1_1 (O.sel [true]) ?r1_1
  case y1_1 =>
    intro WW hSw
    (go_simp) <;> (with_reducible rfl)
  case' r1_1 =>
    try simp only [Act.put, List.setIfInBounds_toArray, List.set_cons_zero, List.set_cons_succ]
  refine takeH (i := 1) (v := ?v1_2) rfl (by kernel_rfl) (by kernel_rfl) (by kernel_rfl) (fun _ _ _ h => h) (by rfl) ?y1_2 (O.sel [true]) ?r1_2
  case y1_2 =>
    intro WW hSw
    (go_simp) <;> (with_reducible rfl)
  case' r1_2 =>
    try simp only [Act.put, List.setIfInBounds_toArray, List.set_cons_zero, List.set_cons_succ]
  refine takeH (i := 2) (v := ?v1_3) rfl (by kernel_rfl) (by kernel_rfl) (by kernel_rfl) (fun _ _ _ h => h) (by rfl) ?y1_3 (O.sel [true]) ?r1_3
  case y1_3 =>
    intro WW hSw
    (go_simp) <;> (with_reducible rfl)
  case' r1_3 =>
    try simp only [Act.put, List.setIfInBounds_toArray, List.set_cons_zero, List.set_cons_succ]
  refine takeH (i := 3) (v := ?v1_4) rfl (by kernel_rfl) (by kernel_rfl) (by kernel_rfl) (fun _ _ _ h => h) (by rfl) ?y1_4 (O.sel [true]) ?r1_4
  case y1_4 =>
    intro WW hSw
    replace hSw : Mem _ _ WW _ := hSw
    have cs := hSw.facts
    simp only [sel, factsP, cellsP, roomP, foots_cons, foots_nil, foots_append, foot_pt, ptb, ptb_mapA, foot_mapA, factsP_mapA, foot_bun, List.append_nil, List.nil_append, List.cons_append, List.nodup_cons, List.nodup_nil, List.mem_cons, List.not_mem_nil, List.mem_singleton, List.forall_mem_cons, not_or, not_false_eq_true, and_true, true_and, or_false, false_or, forall_eq_or_imp, forall_eq, implies_true, Nat.zero_add, Nat.reduceAdd, and_assoc, ptb_listA, factsP_listA, factsP_mapA, ptb_mapA, Nat.mul_one] at cs
    (go_simp) <;> (with_reducible rfl)
  case' r1_4 =>
    try simp only [Act.put, List.setIfInBounds_toArray, List.set_cons_zero, List.set_cons_succ]
  refine takeH (i := 4) (v := ?v1_5) rfl (by kernel_rfl) (by kernel_rfl) (by kernel_rfl) (fun _ _ _ h => h) (by rfl) ?y1_5 (O.sel [true]) ?r1_5
  case y1_5 =>
    intro WW hSw
    (go_simp) <;> (with_reducible rfl)
  case' r1_5 =>
    try simp only [Act.put, List.setIfInBounds_toArray, List.set_cons_zero, List.set_cons_succ]
  refine takeH (i := 5) (v := ?v1_6) rfl (by kernel_rfl) (by kernel_rfl) (by kernel_rfl) (fun _ _ _ h => h) (by rfl) ?y1_6 (O.sel [true]) ?r1_6
  case y1_6 =>
    intro WW hSw
    (go_simp) <;> (with_reducible rfl)
  case' r1_6 =>
    try simp only [Act.put, List.setIfInBounds_toArray, List.set_cons_zero, List.set_cons_succ]
  refine takeH (i := 6) (v := ?v1_7) rfl (by kernel_rfl) (by kernel_rfl) (by kernel_rfl) (fun _ _ _ h => h) (by rfl) ?y1_7 (O.sel [true]) ?r1_7
  case y1_7 =>
    intro WW hSw
    (go_simp) <;> (with_reducible rfl)
  case' r1_7 =>
    try simp only [Act.put, List.setIfInBounds_toArray, List.set_cons_zero, List.set_cons_succ]
  refine takeH (i := 7) (v := ?v1_8) rfl (by kernel_rfl) (by kernel_rfl) (by kernel_rfl) (fun _ _ _ h => h) (by rfl) ?y1_8 (O.sel [true]) ?r1_8
  case y1_8 =>
    intro WW hSw
    replace hSw : Mem _ _ WW _ := hSw
    have cs := hSw.facts
    simp only [sel, factsP, cellsP, roomP, foots_cons, foots_nil, foots_append, foot_pt, ptb, ptb_mapA, foot_mapA, factsP_mapA, foot_bun, List.append_nil, List.nil_append, List.cons_append, List.nodup_cons, List.nodup_nil, List.mem_cons, List.not_mem_nil, List.mem_singleton, List.forall_mem_cons, not_or, not_false_eq_true, and_true, true_and, or_false, false_or, forall_eq_or_imp, forall_eq, implies_true, Nat.zero_add, Nat.reduceAdd, and_assoc, ptb_listA, factsP_listA, factsP_mapA, ptb_mapA, Nat.mul_one] at cs
    (go_simp) <;> (with_reducible rfl)
  case' r1_8 =>
    try simp only [Act.put, List.setIfInBounds_toArray, List.set_cons_zero, List.set_cons_succ]
  refine takeH (i := 8) (v := ?v1_9) rfl (by kernel_rfl) (by kernel_rfl) (by kernel_rfl) (fun _ _ _ h => h) (by rfl) ?y1_9 (O.sel [true]) ?r1_9
  case y1_9 =>
    intro WW hSw
    (go_simp) <;> (with_reducible rfl)
  case' r1_9 =>
    try simp only [Act.put, List.setIfInBounds_toArray, List.set_cons_zero, List.set_cons_succ]
  refine takeH (i := 9) (v := ?v1_10) rfl (by kernel_rfl) (by kernel_rfl) (by kernel_rfl) (fun _ _ _ h => h) (by rfl) ?y1_10 (O.sel [true]) ?r1_10
  case y1_10 =>
    intro WW hSw
    (go_simp) <;> (with_reducible rfl)
  case' r1_10 =>
    try simp only [Act.put, List.setIfInBounds_toArray, List.set_cons_zero, List.set_cons_succ]
  refine takeH (i := 10) (v := ?v1_11) rfl (by kernel_rfl) (by kernel_rfl) (by kernel_rfl) (fun _ _ _ h => h) (by rfl) ?y1_11 (O.sel [true]) ?r1_11
  case y1_11 =>
    intro WW hSw
    (go_simp) <;> (with_reducible rfl)
  case' r1_11 =>
    try simp only [Act.put, List.setIfInBounds_toArray, List.set_cons_zero, List.set_cons_succ]
  refine takeH (i := 12) (v := ?v1_12) rfl (by kernel_rfl) (by kernel_rfl) (by kernel_rfl) (fun _ _ _ h => h) (by rfl) ?y1_12 (O.sel [true]) ?r1_12
  case y1_12 =>
    intro WW hSw
    (go_simp) <;> (with_reducible rfl)
  case' r1_12 =>
    try simp only [Act.put, List.setIfInBounds_toArray, List.set_cons_zero, List.set_cons_succ]
  refine takeH (i := 13) (v := ?v1_13) rfl (by kernel_rfl) (by kernel_rfl) (by kernel_rfl) (fun _ _ _ h => h) (by rfl) ?y1_13 (O.sel [true]) ?r1_13
  case y1_13 =>
    intro WW hSw
    (go_simp) <;> (with_reducible rfl)
  case' r1_13 =>
    try simp only [Act.put, List.setIfInBounds_toArray, List.set_cons_zero, List.set_cons_succ]
  refine takeH (i := 14) (v := ?v1_14) rfl (by kernel_rfl) (by kernel_rfl) (by kernel_rfl) (fun _ _ _ h => h) (by rfl) ?y1_14 (O.sel [true]) ?r1_14
  case y1_14 =>
    intro WW hSw
    (go_simp) <;> (with_reducible rfl)
  case' r1_14 =>
    try simp only [Act.put, List.setIfInBounds_toArray, List.set_cons_zero, List.set_cons_succ]
  refine takeH (i := 15) (v := ?v1_15) rfl (by kernel_rfl) (by kernel_rfl) (by kernel_rfl) (fun _ _ _ h => h) (by rfl) ?y1_15 (O.sel [true]) ?r1_15
  case y1_15 =>
    intro WW hSw
    replace hSw : Mem _ _ WW _ := hSw
    have cs := hSw.facts
    simp only [sel, factsP, cellsP, roomP, foots_cons, foots_nil, foots_append, foot_pt, ptb, ptb_mapA, foot_mapA, factsP_mapA, foot_bun, List.append_nil, List.nil_append, List.cons_append, List.nodup_cons, List.nodup_nil, List.mem_cons, List.not_mem_nil, List.mem_singleton, List.forall_mem_cons, not_or, not_false_eq_true, and_true, true_and, or_false, false_or, forall_eq_or_imp, forall_eq, implies_true, Nat.zero_add, Nat.reduceAdd, and_assoc, ptb_listA, factsP_listA, factsP_mapA, ptb_mapA, Nat.mul_one] at cs
    (go_simp) <;> (with_reducible rfl)
  case' r1_15 =>
    try simp only [Act.put, List.setIfInBounds_toArray, List.set_cons_zero, List.set_cons_succ]
  refine takeH (i := 16) (v := ?v1_16) rfl (by kernel_rfl) (by kernel_rfl) (by kernel_rfl) (fun _ _ _ h => h) (by rfl) ?y1_16 (O.sel [true]) ?r1_16
  case y1_16 =>
    intro WW hSw
    (go_simp) <;> (with_reducible rfl)
  case' r1_16 =>
    try simp only [Act.put, List.setIfInBounds_toArray, List.set_cons_zero, List.set_cons_succ]
  refine wpAnyH_ready (rs := [11]) (by kernel_rfl) (by simp) ?_
  refine consH rfl (fun K hK => ?_) AllReadyH.nil
  have cs := O.facts
  simp only [factsP, cellsP, roomP, foots_cons, foots_nil, foots_append, foot_pt, ptb, ptb_mapA, foot_mapA, factsP_mapA, foot_bun, List.append_nil, List.nil_append, List.cons_append, List.nodup_cons, List.nodup_nil, List.mem_cons, List.not_mem_nil, List.mem_singleton, List.forall_mem_cons, not_or, not_false_eq_true, and_true, true_and, or_false, false_or, forall_eq_or_imp, forall_eq, implies_true, Nat.zero_add, Nat.reduceAdd, and_assoc, ptb_listA, factsP_listA, factsP_mapA, ptb_mapA, Nat.mul_one] at cs
  go_simp
  apply Mem.atCall
  case h => repeat' (first | (with_reducible exact O) | (with_reducible apply Mem.drew) | (with_reducible apply Mem.drewN) | (with_reducible apply Mem.ext) | (with_reducible apply Mem.alloc) | (with_reducible apply Mem.setCell) | (simp only [ptb, ptb_upd, foots_cons, List.mem_cons, World.size_alloc, size_ext, World.size_setCell, true_or, or_true, eq_self_iff_true, ptb_listA, ptb_mapA]))
  intro w1_17 O'
  (try clear O)
  have O := O'
  clear O'
  (first | simp only [sel, rst, List.cons_append, List.nil_append, World.size_alloc, size_ext, World.size_setCell, size_setMap, World.size_drew, size_drewN, upd, List.set_cons_zero, List.set_cons_succ, if_true, if_false, reduceIte, not_false_eq_true, ne_lt0, ne_lt1, ne_lt2, ne_lt3, ne_lt4, cs] at O | simp only [sel, rst, List.cons_append, List.nil_append, World.size_alloc, size_ext, World.size_setCell, size_setMap, World.size_drew, size_drewN, upd, List.set_cons_zero, List.set_cons_succ, if_true, if_false, reduceIte, not_false_eq_true, ne_lt0, ne_lt1, ne_lt2, ne_lt3, ne_lt4] at O | skip)
  (try clear cs)
  (try clear v1)
  (try clear v2)
  (try clear v3)
  refine (CU.out _ (O.pre [true])).mono ?_
  rintro e w1_17' ⟨rfl, o⟩
  replace O := O.callp [] o
  clear o
  simp only [put, List.cons_append, List.nil_append] at O
  go_wp2_with fail
  refine hK.out _ _ (O.sel [true]) (fun _ => ?_)
  clear hK K
  refine takeH (i := 17) (v := ?v1_18) rfl (by kernel_rfl) (by kernel_rfl) (by kernel_rfl) (fun _ _ _ h => h) (by rfl) ?y1_18 (O.sel [true]) ?r1_18
  case y1_18 =>
    intro WW hSw
    (go_simp) <;> (with_reducible rfl)
  case' r1_18 =>
    try simp only [Act.put, List.setIfInBounds_toArray, List.set_cons_zero, List.set_cons_succ]
  refine takeH (i := 18) (v := ?v1_19) rfl (by kernel_rfl) (by kernel_rfl) (by kernel_rfl) (fun _ _ _ h => h) (by rfl) ?y1_19 (O.sel [true]) ?r1_19
  case y1_19 =>
    intro WW hSw
    (go_simp) <;> (with_reducible rfl)
  case' r1_19 =>
    try simp only [Act.put, List.setIfInBounds_toArray, List.set_cons_zero, List.set_cons_succ]
  refine takeH (i := 19) (v := ?v1_20) rfl (by kernel_rfl) (by kernel_rfl) (by kernel_rfl) (fun _ _ _ h => h) (by rfl) ?y1_20 (O.sel [true]) ?r1_20
  case y1_20 =>
    intro WW hSw
    (go_simp) <;> (with_reducible rfl)
  case' r1_20 =>
    try simp only [Act.put, List.setIfInBounds_toArray, List.set_cons_zero, List.set_cons_succ]
  refine takeH (i := 20) (v := ?v1_21) rfl (by kernel_rfl) (by kernel_rfl) (by kernel_rfl) (fun _ _ _ h => h) (by rfl) ?y1_21 (O.sel [true]) ?r1_21
  case y1_21 =>
    intro WW hSw
    (go_simp) <;> (with_reducible rfl)
  case' r1_21 =>
    try simp only [Act.put, List.setIfInBounds_toArray, List.set_cons_zero, List.set_cons_succ]
  refine wpAnyH_done (by kernel_rfl) ?_ _
  skip
  have cs := O.facts
  try simp only [factsP, cellsP, roomP, foots_cons, foots_nil, foots_append, foot_pt, ptb, ptb_mapA, foot_mapA, factsP_mapA, foot_bun, List.append_nil, List.nil_append, List.cons_append, List.nodup_cons, List.nodup_nil, List.mem_cons, List.not_mem_nil, List.mem_singleton, List.forall_mem_cons, not_or, not_false_eq_true, and_true, true_and, or_false, false_or, forall_eq_or_imp, forall_eq, implies_true, Nat.zero_add, Nat.reduceAdd, and_assoc, ptb_listA, factsP_listA, factsP_mapA, ptb_mapA, Nat.mul_one] at cs
  go_wp2_with fail
  go_ret2
  exact ⟨rfl, O⟩
end Go.Proofs.Ytojpcfjlenjfbaa
