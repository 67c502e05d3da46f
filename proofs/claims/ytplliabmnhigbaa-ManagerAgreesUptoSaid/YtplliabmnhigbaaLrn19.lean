/- WALKS: a learner (NewLearner, Accepted, Chosen), of any chapter. -/
import Derived.Test.YtplliabmnhigbaaAccTab
import Derived.Test.YtplliabmnhigbaaList
import Derived.Test.YtplliabmnhigbaaRange
set_option linter.unusedVariables false
set_option linter.unusedSimpArgs false
namespace Go.Proofs.Ytplliabmnhigbaa
open Go.RowKit Go.Tk
theorem mLess (a b : Ballot) (w : World) : Calls Try.prog 55 #[a.val, b.val] w (fun e w' => e = .returned (.bool (less a b)) ∧ Mem w [] w' []) :=
  (acc_Less a b w).mono fun _ _ ⟨he, y, hy⟩ => ⟨he, by subst hy; exact Mem.begin.ext⟩
/-- a callee that only reads, met in a region of reads -/
theorem quietMem {f : FuncId} {args : Array Value} {w : World} {x : Ext} {v : Value} (h : Calls Try.prog f args (w.ext x) (fun e w' => e = .returned v ∧ Mem (w.ext x) [] w' [])) : Calls Try.prog f args (w.ext x) fun e w'' => e = .returned v ∧ ∃ y, w'' = w.ext y :=
  h.mono fun _ _ ⟨he, hm⟩ => by
    obtain ⟨y, hy⟩ := of_below (hm.fr.below rfl)
    exact ⟨he, _, hy.trans ext_ext⟩
abbrev intK : KeyTy Try.prog 3 Int := intKey Try.underlying3
theorem okSmall {f : Int} (h1 : 0 ≤ f) (h2 : f ≤ 9) : intK.ok f := by
  show (Lit.int .i64 f).wf = true
  simp [Lit.wf, IntKind.min, IntKind.max, IntKind.signed, IntKind.bits]
  omega
structure Said where
  b : Ballot
  v : ByteArray
def Said.val (s : Said) : Value := .agg #[.int .u32 s.b.r, .int .u8 s.b.n, .string s.v]
def Said.same (s t : Said) : Bool := decide (s.b.r = t.b.r ∧ s.b.n = t.b.n ∧ s.v.toList = t.v.toList)
structure Learn11 where
  n : Int
  said : List (Int × Said)
  chosen : ByteArray
  is : Bool
def Learn11.cells (l : Learn11) (mb : Nat) : List Value := [.int .i64 l.n, .map (some mb), .string l.chosen, .bool l.is]
def learnL (lb mb : Nat) (l : Learn11) : List Asn := [.pt lb (l.cells mb) 148, mapA intK Said.val mb l.said]
def learnA (lb mb : Nat) (l : Learn11) : Asn := bun (learnL lb mb l)
theorem factsP_learnA {w : World} {L : List Asn} {lb mb : Nat} {l : Learn11} : factsP w (learnA lb mb l :: L) = factsP w L := rfl
theorem ptb_learnA {L : List Asn} {lb mb : Nat} {l : Learn11} : ptb (learnA lb mb l :: L) = ptb L := rfl
def newL (n : Int) : Learn11 := ⟨n, [], .empty, false⟩
def told11 (m : List (Int × Said)) (s : Said) : Nat := (m.filter (fun p => p.2.same s)).length
/-- is what was said before not below? -/
def stale11 (m : List (Int × Said)) (f : Int) (b : Ballot) : Bool := match mget m f with | some s => !less s.b b | none => false
def accepted11 (l : Learn11) (f : Int) (b : Ballot) (v : ByteArray) : ByteArray × Bool × Learn11 :=
  if l.is = true ∨ f < 0 ∨ l.n ≤ f ∨ stale11 l.said f b = true then (.empty, false, l) else
  if (told11 (mset l.said f ⟨b, v⟩) ⟨b, v⟩ : Int) ≤ l.n / 2 then (.empty, false, ⟨l.n, mset l.said f ⟨b, v⟩, l.chosen, l.is⟩) else (v, true, ⟨l.n, mset l.said f ⟨b, v⟩, v, true⟩)
def zeroSaid : Said := ⟨noB, .empty⟩
theorem zeroSaid_run (w : World) : (zeroValue 151).run Try.prog w = .ok zeroSaid.val w := by kernel_rfl

set_option maxRecDepth 100000 in
set_option maxHeartbeats 4000000 in
theorem learn_New (n : Int) (w : World) (h : 1 ≤ n ∧ n ≤ 9) : Calls Try.prog 37 #[.int .i64 n] w (fun e w' => e = .returned (.tuple #[.pointer (some ⟨w.heap.size + 1, 0, none⟩), .int .i64 0]) ∧ Mem w [] w' (learnL (w.heap.size + 1) w.heap.size (newL n))) := by
  obtain ⟨h1, h2⟩ := h
  have O : Mem w [] w [] := Mem.begin
  have hmm := @run_makeMap Try.prog
  go_enter Try.func37, Try.ntmps37
  go_wp2
  go_ret2
  refine ⟨rfl, ?_⟩
  have O2 := (O.newMap (κ := intK) (vv := Said.val)).alloc [.int .i64 n, .map (some w.heap.size), .string .empty, .bool false] 148
  rw [World.size_alloc] at O2
  exact O2
set_option maxRecDepth 100000 in
set_option maxHeartbeats 4000000 in
theorem learn_New_bad (n : Int) (w : World) (h : ¬ (1 ≤ n ∧ n ≤ 9)) : Calls Try.prog 37 #[.int .i64 n] w (fun e w' => e = .returned (.tuple #[.pointer none, .int .i64 1]) ∧ w' = w) := by
  have hc : n < 1 ∨ (1 ≤ n ∧ 9 < n) := by omega
  clear h
  rcases hc with h | ⟨h, h2⟩
  all_goals
    go_enter Try.func37, Try.ntmps37
    go_wp2
    go_ret2
    exact ⟨rfl, rfl⟩
set_option maxRecDepth 100000 in
set_option maxHeartbeats 4000000 in
theorem learn_Chosen (w : World) (lb mb : Nat) (l : Learn11) (h : Pre w (learnL lb mb l)) : Calls Try.prog 52 #[.pointer (some ⟨lb, 0, none⟩)] w (fun e w' => e = .returned (.tuple #[.string l.chosen, .bool l.is]) ∧ Mem w [] w' []) := by
  have H := Lib.hid h
  clear h
  have O : Mem w [] w [] := Mem.begin
  skip
  go_enter Try.func52, Try.ntmps52
  have cs := O.facts
  try simp only [factsP, cellsP, roomP, foots_cons, foots_nil, foots_append, foot_pt, ptb, ptb_mapA, foot_mapA, factsP_mapA, foot_bun, List.append_nil, List.nil_append, List.cons_append, List.nodup_cons, List.nodup_nil, List.mem_cons, List.not_mem_nil, List.mem_singleton, List.forall_mem_cons, not_or, not_false_eq_true, and_true, true_and, or_false, false_or, forall_eq_or_imp, forall_eq, implies_true, Nat.zero_add, Nat.reduceAdd, and_assoc, Learn11.cells, learnL, ptb_iterA, factsP_iterA, ptb_learnA, factsP_learnA] at cs
  have v1 := (H.out.view O.fr).facts
  try simp only [cellsQ, roomP, and_assoc, and_true, true_and, Nat.add_zero, Nat.zero_add, Nat.reduceAdd, factsP, cellsP, roomP, foots_cons, foots_nil, foots_append, foot_pt, ptb, ptb_mapA, foot_mapA, factsP_mapA, foot_bun, List.append_nil, List.nil_append, List.cons_append, List.nodup_cons, List.nodup_nil, List.mem_cons, List.not_mem_nil, List.mem_singleton, List.forall_mem_cons, not_or, not_false_eq_true, and_true, true_and, or_false, false_or, forall_eq_or_imp, forall_eq, implies_true, Nat.zero_add, Nat.reduceAdd, and_assoc, Learn11.cells, learnL, ptb_iterA, factsP_iterA, ptb_learnA, factsP_learnA] at v1
  go_wp2_with fail
  apply region_held_mem [] (by kernel_rfl)
  case O => repeat' (first | (with_reducible exact O) | (with_reducible apply Mem.drew) | (with_reducible apply Mem.drewN) | (with_reducible apply Mem.ext) | (with_reducible apply Mem.alloc) | (with_reducible apply Mem.setCell) | (with_reducible apply Mem.newMap (κ := intK) (vv := Said.val)) | (simp only [ptb, ptb_upd, foots_cons, List.mem_cons, World.size_alloc, size_ext, World.size_setCell, true_or, or_true, eq_self_iff_true, ptb_iterA, ptb_learnA]))
  case' h =>
    intro wr1 O'
    (try clear O)
    have O := O'
    clear O'
    (first | simp only [sel, rst, List.cons_append, List.nil_append, World.size_alloc, size_ext, World.size_setCell, size_setMap, World.size_drew, size_drewN, upd, List.set_cons_zero, List.set_cons_succ, if_true, if_false, reduceIte, not_false_eq_true, ne_lt0, ne_lt1, ne_lt2, ne_lt3, ne_lt4, cs] at O | simp only [sel, rst, List.cons_append, List.nil_append, World.size_alloc, size_ext, World.size_setCell, size_setMap, World.size_drew, size_drewN, upd, List.set_cons_zero, List.set_cons_succ, if_true, if_false, reduceIte, not_false_eq_true, ne_lt0, ne_lt1, ne_lt2, ne_lt3, ne_lt4] at O | skip)
    (try clear cs)
    (try clear v1)
    (try clear v2)
    (try clear v3)
  refine takeH (i := 0) (v := ?v1_1) rfl (by kernel_rfl) (by kernel_rfl) (by kernel_rfl) (fun _ _ _ h => h) (by rfl) ?y1_1 (O.sel []) ?r1_1
  case y1_1 =>
    intro WW hSw
    (go_simp) <;> (with_reducible rfl)
  case' r1_1 =>
    try simp only [Act.put, List.setIfInBounds_toArray, List.set_cons_zero, List.set_cons_succ]
  refine takeH (i := 1) (v := ?v1_2) rfl (by kernel_rfl) (by kernel_rfl) (by kernel_rfl) (fun _ _ _ h => h) (by rfl) ?y1_2 (O.sel []) ?r1_2
  case y1_2 =>
    intro WW hSw
    (go_simp) <;> (with_reducible rfl)
  case' r1_2 =>
    try simp only [Act.put, List.setIfInBounds_toArray, List.set_cons_zero, List.set_cons_succ]
  refine takeH (i := 2) (v := ?v1_3) rfl (by kernel_rfl) (by kernel_rfl) (by kernel_rfl) (fun _ _ _ h => h) (by rfl) ?y1_3 (O.sel []) ?r1_3
  case y1_3 =>
    intro WW hSw
    (go_simp) <;> (with_reducible rfl)
  case' r1_3 =>
    try simp only [Act.put, List.setIfInBounds_toArray, List.set_cons_zero, List.set_cons_succ]
  refine takeH (i := 3) (v := ?v1_4) rfl (by kernel_rfl) (by kernel_rfl) (by kernel_rfl) (fun _ _ _ h => h) (by rfl) ?y1_4 (O.sel []) ?r1_4
  case y1_4 =>
    intro WW hSw
    replace hSw : Mem _ _ WW _ := hSw
    have cs := hSw.facts
    simp only [sel, factsP, cellsP, roomP, foots_cons, foots_nil, foots_append, foot_pt, ptb, ptb_mapA, foot_mapA, factsP_mapA, foot_bun, List.append_nil, List.nil_append, List.cons_append, List.nodup_cons, List.nodup_nil, List.mem_cons, List.not_mem_nil, List.mem_singleton, List.forall_mem_cons, not_or, not_false_eq_true, and_true, true_and, or_false, false_or, forall_eq_or_imp, forall_eq, implies_true, Nat.zero_add, Nat.reduceAdd, and_assoc, Learn11.cells, learnL, ptb_iterA, factsP_iterA, ptb_learnA, factsP_learnA] at cs
    have v1 := (H.out.view hSw.fr).facts
    try simp only [cellsQ, roomP, and_assoc, and_true, true_and, Nat.add_zero, Nat.zero_add, Nat.reduceAdd, factsP, cellsP, roomP, foots_cons, foots_nil, foots_append, foot_pt, ptb, ptb_mapA, foot_mapA, factsP_mapA, foot_bun, List.append_nil, List.nil_append, List.cons_append, List.nodup_cons, List.nodup_nil, List.mem_cons, List.not_mem_nil, List.mem_singleton, List.forall_mem_cons, not_or, not_false_eq_true, and_true, true_and, or_false, false_or, forall_eq_or_imp, forall_eq, implies_true, Nat.zero_add, Nat.reduceAdd, and_assoc, Learn11.cells, learnL, ptb_iterA, factsP_iterA, ptb_learnA, factsP_learnA] at v1
    (go_simp) <;> (with_reducible rfl)
  case' r1_4 =>
    try simp only [Act.put, List.setIfInBounds_toArray, List.set_cons_zero, List.set_cons_succ]
  refine takeH (i := 4) (v := ?v1_5) rfl (by kernel_rfl) (by kernel_rfl) (by kernel_rfl) (fun _ _ _ h => h) (by rfl) ?y1_5 (O.sel []) ?r1_5
  case y1_5 =>
    intro WW hSw
    (go_simp) <;> (with_reducible rfl)
  case' r1_5 =>
    try simp only [Act.put, List.setIfInBounds_toArray, List.set_cons_zero, List.set_cons_succ]
  refine takeH (i := 5) (v := ?v1_6) rfl (by kernel_rfl) (by kernel_rfl) (by kernel_rfl) (fun _ _ _ h => h) (by rfl) ?y1_6 (O.sel []) ?r1_6
  case y1_6 =>
    intro WW hSw
    (go_simp) <;> (with_reducible rfl)
  case' r1_6 =>
    try simp only [Act.put, List.setIfInBounds_toArray, List.set_cons_zero, List.set_cons_succ]
  refine takeH (i := 6) (v := ?v1_7) rfl (by kernel_rfl) (by kernel_rfl) (by kernel_rfl) (fun _ _ _ h => h) (by rfl) ?y1_7 (O.sel []) ?r1_7
  case y1_7 =>
    intro WW hSw
    (go_simp) <;> (with_reducible rfl)
  case' r1_7 =>
    try simp only [Act.put, List.setIfInBounds_toArray, List.set_cons_zero, List.set_cons_succ]
  refine takeH (i := 7) (v := ?v1_8) rfl (by kernel_rfl) (by kernel_rfl) (by kernel_rfl) (fun _ _ _ h => h) (by rfl) ?y1_8 (O.sel []) ?r1_8
  case y1_8 =>
    intro WW hSw
    replace hSw : Mem _ _ WW _ := hSw
    have cs := hSw.facts
    simp only [sel, factsP, cellsP, roomP, foots_cons, foots_nil, foots_append, foot_pt, ptb, ptb_mapA, foot_mapA, factsP_mapA, foot_bun, List.append_nil, List.nil_append, List.cons_append, List.nodup_cons, List.nodup_nil, List.mem_cons, List.not_mem_nil, List.mem_singleton, List.forall_mem_cons, not_or, not_false_eq_true, and_true, true_and, or_false, false_or, forall_eq_or_imp, forall_eq, implies_true, Nat.zero_add, Nat.reduceAdd, and_assoc, Learn11.cells, learnL, ptb_iterA, factsP_iterA, ptb_learnA, factsP_learnA] at cs
    have v1 := (H.out.view hSw.fr).facts
    try simp only [cellsQ, roomP, and_assoc, and_true, true_and, Nat.add_zero, Nat.zero_add, Nat.reduceAdd, factsP, cellsP, roomP, foots_cons, foots_nil, foots_append, foot_pt, ptb, ptb_mapA, foot_mapA, factsP_mapA, foot_bun, List.append_nil, List.nil_append, List.cons_append, List.nodup_cons, List.nodup_nil, List.mem_cons, List.not_mem_nil, List.mem_singleton, List.forall_mem_cons, not_or, not_false_eq_true, and_true, true_and, or_false, false_or, forall_eq_or_imp, forall_eq, implies_true, Nat.zero_add, Nat.reduceAdd, and_assoc, Learn11.cells, learnL, ptb_iterA, factsP_iterA, ptb_learnA, factsP_learnA] at v1
    (go_simp) <;> (with_reducible rfl)
  case' r1_8 =>
    try simp only [Act.put, List.setIfInBounds_toArray, List.set_cons_zero, List.set_cons_succ]
  refine takeH (i := 8) (v := ?v1_9) rfl (by kernel_rfl) (by kernel_rfl) (by kernel_rfl) (fun _ _ _ h => h) (by rfl) ?y1_9 (O.sel []) ?r1_9
  case y1_9 =>
    intro WW hSw
    (go_simp) <;> (with_reducible rfl)
  case' r1_9 =>
    try simp only [Act.put, List.setIfInBounds_toArray, List.set_cons_zero, List.set_cons_succ]
  refine takeH (i := 9) (v := ?v1_10) rfl (by kernel_rfl) (by kernel_rfl) (by kernel_rfl) (fun _ _ _ h => h) (by rfl) ?y1_10 (O.sel []) ?r1_10
  case y1_10 =>
    intro WW hSw
    (go_simp) <;> (with_reducible rfl)
  case' r1_10 =>
    try simp only [Act.put, List.setIfInBounds_toArray, List.set_cons_zero, List.set_cons_succ]
  refine wpAnyH_done (by kernel_rfl) ?_ _
  have cs := O.facts
  try simp only [factsP, cellsP, roomP, foots_cons, foots_nil, foots_append, foot_pt, ptb, ptb_mapA, foot_mapA, factsP_mapA, foot_bun, List.append_nil, List.nil_append, List.cons_append, List.nodup_cons, List.nodup_nil, List.mem_cons, List.not_mem_nil, List.mem_singleton, List.forall_mem_cons, not_or, not_false_eq_true, and_true, true_and, or_false, false_or, forall_eq_or_imp, forall_eq, implies_true, Nat.zero_add, Nat.reduceAdd, and_assoc, Learn11.cells, learnL, ptb_iterA, factsP_iterA, ptb_learnA, factsP_learnA] at cs
  have v1 := (H.out.view O.fr).facts
  try simp only [cellsQ, roomP, and_assoc, and_true, true_and, Nat.add_zero, Nat.zero_add, Nat.reduceAdd, factsP, cellsP, roomP, foots_cons, foots_nil, foots_append, foot_pt, ptb, ptb_mapA, foot_mapA, factsP_mapA, foot_bun, List.append_nil, List.nil_append, List.cons_append, List.nodup_cons, List.nodup_nil, List.mem_cons, List.not_mem_nil, List.mem_singleton, List.forall_mem_cons, not_or, not_false_eq_true, and_true, true_and, or_false, false_or, forall_eq_or_imp, forall_eq, implies_true, Nat.zero_add, Nat.reduceAdd, and_assoc, Learn11.cells, learnL, ptb_iterA, factsP_iterA, ptb_learnA, factsP_learnA] at v1
  go_wp2_with fail
  go_ret2
  exact ⟨rfl, O.fr0⟩
set_option maxRecDepth 100000 in
set_option maxHeartbeats 4000000 in
theorem learn_Accepted_no (w : World) (lb mb : Nat) (l : Learn11) (f : Int) (b : Ballot) (v : ByteArray) (h : Pre w (learnL lb mb l)) (hn : l.is = true ∨ f < 0 ∨ l.n ≤ f) :
    Calls Try.prog 39 #[.pointer (some ⟨lb, 0, none⟩), .int .i64 f, b.val, .string v] w (fun e w' => e = .returned (.tuple #[.string .empty, .bool false]) ∧ Mem w [] w' []) := by
  have H := Lib.hid h
  clear h
  obtain ⟨n, said, chosen, is⟩ := l
  simp only at hn
  obtain ⟨br, bn⟩ := b
  simp only [Ballot.val]
  have O : Mem w [] w [] := Mem.begin
  have hc : is = true ∨ (is = false ∧ f < 0) ∨ (is = false ∧ ¬ f < 0 ∧ n ≤ f) := by
    cases is <;> simp at hn ⊢
    omega
  clear hn
  skip
  rcases hc with rfl | ⟨rfl, h1⟩ | ⟨rfl, h1, h2⟩
  all_goals
    go_enter Try.func39, Try.ntmps39
    have cs := O.facts
    try simp only [factsP, cellsP, roomP, foots_cons, foots_nil, foots_append, foot_pt, ptb, ptb_mapA, foot_mapA, factsP_mapA, foot_bun, List.append_nil, List.nil_append, List.cons_append, List.nodup_cons, List.nodup_nil, List.mem_cons, List.not_mem_nil, List.mem_singleton, List.forall_mem_cons, not_or, not_false_eq_true, and_true, true_and, or_false, false_or, forall_eq_or_imp, forall_eq, implies_true, Nat.zero_add, Nat.reduceAdd, and_assoc, Learn11.cells, learnL, ptb_iterA, factsP_iterA, ptb_learnA, factsP_learnA] at cs
    have v1 := (H.out.view O.fr).facts
    try simp only [cellsQ, roomP, and_assoc, and_true, true_and, Nat.add_zero, Nat.zero_add, Nat.reduceAdd, factsP, cellsP, roomP, foots_cons, foots_nil, foots_append, foot_pt, ptb, ptb_mapA, foot_mapA, factsP_mapA, foot_bun, List.append_nil, List.nil_append, List.cons_append, List.nodup_cons, List.nodup_nil, List.mem_cons, List.not_mem_nil, List.mem_singleton, List.forall_mem_cons, not_or, not_false_eq_true, and_true, true_and, or_false, false_or, forall_eq_or_imp, forall_eq, implies_true, Nat.zero_add, Nat.reduceAdd, and_assoc, Learn11.cells, learnL, ptb_iterA, factsP_iterA, ptb_learnA, factsP_learnA] at v1
    go_wp2_with fail
    go_ret2
    refine ⟨rfl, ?_⟩
    apply Mem.to []
    · repeat' (first | (with_reducible exact O) | (with_reducible apply Mem.drew) | (with_reducible apply Mem.drewN) | (with_reducible apply Mem.ext) | (with_reducible apply Mem.alloc) | (with_reducible apply Mem.setCell) | (with_reducible apply Mem.newMap (κ := intK) (vv := Said.val)) | (simp only [ptb, ptb_upd, foots_cons, List.mem_cons, World.size_alloc, size_ext, World.size_setCell, true_or, or_true, eq_self_iff_true, ptb_iterA, ptb_learnA]))
    · first | with_reducible rfl | (simp only [sel, rst, List.cons_append, List.nil_append, World.size_alloc, size_ext, World.size_setCell, size_setMap, World.size_drew, size_drewN, upd, List.set_cons_zero, List.set_cons_succ, if_true, if_false, reduceIte, not_false_eq_true, ne_lt0, ne_lt1, ne_lt2, ne_lt3, ne_lt4, cs]; done) | (simp only [sel, rst, List.cons_append, List.nil_append, World.size_alloc, size_ext, World.size_setCell, size_setMap, World.size_drew, size_drewN, upd, List.set_cons_zero, List.set_cons_succ, if_true, if_false, reduceIte, not_false_eq_true, ne_lt0, ne_lt1, ne_lt2, ne_lt3, ne_lt4]; done) | (simp only [sel, rst, List.cons_append, List.nil_append, World.size_alloc, size_ext, World.size_setCell, size_setMap, World.size_drew, size_drewN, upd, List.set_cons_zero, List.set_cons_succ, if_true, if_false, reduceIte, not_false_eq_true, ne_lt0, ne_lt1, ne_lt2, ne_lt3, ne_lt4, cs]; rfl) | (simp only [sel, rst, List.cons_append, List.nil_append, World.size_alloc, size_ext, World.size_setCell, size_setMap, World.size_drew, size_drewN, upd, List.set_cons_zero, List.set_cons_succ, if_true, if_false, reduceIte, not_false_eq_true, ne_lt0, ne_lt1, ne_lt2, ne_lt3, ne_lt4]; rfl)
theorem look_said {W : World} {mb : Nat} {m : List (Int × Said)} (h : MapAt intK Said.val W mb m) {f : Int} (hk : intK.ok f) : (Instr.lookup 146 (.map (some mb)) (.int .i64 f) true).run Try.prog W = .ok (.tuple #[((mget m f).getD zeroSaid).val, .bool (mget m f).isSome]) W := by
  have := h.lookup Try.underlying146 zeroSaid_run hk true
  simp only [if_true] at this
  rw [show intK.kv f = .int .i64 f from rfl] at this
  rw [this]
  cases mget m f <;> rfl
set_option maxRecDepth 100000 in
set_option maxHeartbeats 16000000 in
theorem learn_Accepted_yes (w : World) (lb mb : Nat) (l : Learn11) (f : Int) (b : Ballot) (v : ByteArray) (h : Pre w (learnL lb mb l)) (h0 : l.is = false) (h1 : 0 ≤ f) (h2 : f < l.n) (h3 : l.n ≤ 9) (hsz : l.said.length ≤ 9) :
    Calls Try.prog 39 #[.pointer (some ⟨lb, 0, none⟩), .int .i64 f, b.val, .string v] w (fun e w' => e = .returned (.tuple #[.string (accepted11 l f b v).1, .bool (accepted11 l f b v).2.1]) ∧ Mem w (foots (learnL lb mb l)) w' (learnL lb mb (accepted11 l f b v).2.2)) := by
  skip
  obtain ⟨fp, hfp⟩ : ∃ F, F = foots (learnL lb mb l) := ⟨_, rfl⟩
  have O : Mem w fp w (learnL lb mb l) := by rw [hfp]; exact h
  rw [← hfp]
  clear hfp h
  obtain ⟨n, said, chosen, is⟩ := l
  simp only at h0 h1 h2 h3 hsz
  subst h0
  obtain ⟨r, hr⟩ : ∃ r, r = accepted11 ⟨n, said, chosen, false⟩ f b v := ⟨_, rfl⟩
  rw [← hr]
  have hcond : ∀ st : Bool, (False ∨ f < 0 ∨ n ≤ f ∨ st = true) ↔ st = true := fun st => by
    constructor
    · rintro (h | h | h | h)
      · exact h.elim
      · omega
      · omega
      · exact h
    · exact fun h => .inr (.inr (.inr h))
  simp only [accepted11, Bool.false_eq_true, hcond] at hr
  clear hcond
  have hk : intK.ok f := okSmall h1 (by omega)
  have HK := Lib.hid hk
  have HR := Lib.hid hr
  clear hk hr
  have hst : stale11 said f b = ((mget said f).isSome && !less ((mget said f).getD zeroSaid).b b) := by
    unfold stale11
    cases mget said f <;> rfl
  obtain ⟨kn, hkn⟩ : ∃ k, k = (mget said f).isSome := ⟨_, rfl⟩
  obtain ⟨⟨⟨sr, sn⟩, sv⟩, hs⟩ : ∃ s, s = (mget said f).getD zeroSaid := ⟨_, rfl⟩
  rw [← hkn, ← hs] at hst
  generalize hls : less ⟨sr, sn⟩ b = ls at hst
  have LK := Lib.hid (fun W (hW : MapAt intK Said.val W mb said) => by have := look_said hW HK.out; rw [← hkn, ← hs] at this; exact this)
  have LE := Lib.hid hls
  have ST := Lib.hid hst
  clear hkn hs hls hst
  have CL := Lib.hid (fun W => mLess ⟨sr, sn⟩ b W)
  rw [LE.out] at CL
  obtain ⟨br, bn⟩ := b
  simp only [Ballot.val, Said.val] at LK CL ⊢
  simp only [learnL, Learn11.cells] at O
  have h2b : decide (f < 0) = false := by simp; omega
  have h3b : decide (n ≤ f) = false := by simp; omega
  go_enter Try.func39, Try.ntmps39
  have cs := O.facts
  try simp only [factsP, cellsP, roomP, foots_cons, foots_nil, foots_append, foot_pt, ptb, ptb_mapA, foot_mapA, factsP_mapA, foot_bun, List.append_nil, List.nil_append, List.cons_append, List.nodup_cons, List.nodup_nil, List.mem_cons, List.not_mem_nil, List.mem_singleton, List.forall_mem_cons, not_or, not_false_eq_true, and_true, true_and, or_false, false_or, forall_eq_or_imp, forall_eq, implies_true, Nat.zero_add, Nat.reduceAdd, and_assoc, Learn11.cells, learnL, ptb_iterA, factsP_iterA, ptb_learnA, factsP_learnA] at cs
  go_upto_region 3 with fail
  first | apply Mem.atCall | apply Mem.atCode | apply Mem.atList
  case h => repeat' (first | (with_reducible exact O) | (with_reducible apply Mem.drew) | (with_reducible apply Mem.drewN) | (with_reducible apply Mem.ext) | (with_reducible apply Mem.alloc) | (with_reducible apply Mem.setCell) | (with_reducible apply Mem.newMap (κ := intK) (vv := Said.val)) | (simp only [ptb, ptb_upd, foots_cons, List.mem_cons, World.size_alloc, size_ext, World.size_setCell, true_or, or_true, eq_self_iff_true, ptb_iterA, ptb_learnA]))
  case' k =>
    intro w1 O'
    (try clear O)
    have O := O'
    clear O'
    (first | simp only [sel, rst, List.cons_append, List.nil_append, World.size_alloc, size_ext, World.size_setCell, size_setMap, World.size_drew, size_drewN, upd, List.set_cons_zero, List.set_cons_succ, if_true, if_false, reduceIte, not_false_eq_true, ne_lt0, ne_lt1, ne_lt2, ne_lt3, ne_lt4, cs] at O | simp only [sel, rst, List.cons_append, List.nil_append, World.size_alloc, size_ext, World.size_setCell, size_setMap, World.size_drew, size_drewN, upd, List.set_cons_zero, List.set_cons_succ, if_true, if_false, reduceIte, not_false_eq_true, ne_lt0, ne_lt1, ne_lt2, ne_lt3, ne_lt4] at O | skip)
    (try clear cs)
    (try clear v1)
    (try clear v2)
    (try clear v3)
  have hlk := LK.out _ (O.map (κ := intK) (vv := Said.val) (b := mb) (m := said) (by simp))
  go_cut [10, 11] (fun s10 s11 wc => ∃ q, s10 = .pointer (some ⟨q, 0, none⟩) ∧ s11 = .bool kn ∧ Mem w fp wc [.pt q [.int .u32 sr, .int .u8 sn, .string sv] 151, .pt w.heap.size [.int .u32 br, .int .u8 bn] 47, .pt lb [.int .i64 n, .map (some mb), .string chosen, .bool false] 148, mapA intK Said.val mb said])
  case first =>
    have cs := O.facts
    try simp only [factsP, cellsP, roomP, foots_cons, foots_nil, foots_append, foot_pt, ptb, ptb_mapA, foot_mapA, factsP_mapA, foot_bun, List.append_nil, List.nil_append, List.cons_append, List.nodup_cons, List.nodup_nil, List.mem_cons, List.not_mem_nil, List.mem_singleton, List.forall_mem_cons, not_or, not_false_eq_true, and_true, true_and, or_false, false_or, forall_eq_or_imp, forall_eq, implies_true, Nat.zero_add, Nat.reduceAdd, and_assoc, Learn11.cells, learnL, ptb_iterA, factsP_iterA, ptb_learnA, factsP_learnA] at cs
    go_wp2_with fail
    go_meet
    refine ⟨_, rfl, rfl, ?_⟩
    repeat' (first | (with_reducible exact O) | (with_reducible apply Mem.drew) | (with_reducible apply Mem.drewN) | (with_reducible apply Mem.ext) | (with_reducible apply Mem.alloc) | (with_reducible apply Mem.setCell) | (with_reducible apply Mem.newMap (κ := intK) (vv := Said.val)) | (simp only [ptb, ptb_upd, foots_cons, List.mem_cons, World.size_alloc, size_ext, World.size_setCell, true_or, or_true, eq_self_iff_true, ptb_iterA, ptb_learnA]))
  case rest =>
    clear O hlk
    obtain ⟨q, rfl, rfl, O⟩ := hcut
    by_cases hstale : (kn && !ls) = true
    · rw [Bool.and_eq_true] at hstale
      obtain ⟨rfl, hl2⟩ := hstale
      have hl3 : ls = false := by simpa using hl2
      subst hl3
      have hr := HR.out
      rw [ST.out] at hr
      simp only [Bool.not_false, Bool.and_self, if_true] at hr
      subst hr
      clear hl2
      have cs := O.facts
      try simp only [factsP, cellsP, roomP, foots_cons, foots_nil, foots_append, foot_pt, ptb, ptb_mapA, foot_mapA, factsP_mapA, foot_bun, List.append_nil, List.nil_append, List.cons_append, List.nodup_cons, List.nodup_nil, List.mem_cons, List.not_mem_nil, List.mem_singleton, List.forall_mem_cons, not_or, not_false_eq_true, and_true, true_and, or_false, false_or, forall_eq_or_imp, forall_eq, implies_true, Nat.zero_add, Nat.reduceAdd, and_assoc, Learn11.cells, learnL, ptb_iterA, factsP_iterA, ptb_learnA, factsP_learnA] at cs
      go_wp2_with fail
      first | apply Mem.atCall | apply Mem.atCode | apply Mem.atList
      case h => repeat' (first | (with_reducible exact O) | (with_reducible apply Mem.drew) | (with_reducible apply Mem.drewN) | (with_reducible apply Mem.ext) | (with_reducible apply Mem.alloc) | (with_reducible apply Mem.setCell) | (with_reducible apply Mem.newMap (κ := intK) (vv := Said.val)) | (simp only [ptb, ptb_upd, foots_cons, List.mem_cons, World.size_alloc, size_ext, World.size_setCell, true_or, or_true, eq_self_iff_true, ptb_iterA, ptb_learnA]))
      case' k =>
        intro w3 O'
        (try clear O)
        have O := O'
        clear O'
        (first | simp only [sel, rst, List.cons_append, List.nil_append, World.size_alloc, size_ext, World.size_setCell, size_setMap, World.size_drew, size_drewN, upd, List.set_cons_zero, List.set_cons_succ, if_true, if_false, reduceIte, not_false_eq_true, ne_lt0, ne_lt1, ne_lt2, ne_lt3, ne_lt4, cs] at O | simp only [sel, rst, List.cons_append, List.nil_append, World.size_alloc, size_ext, World.size_setCell, size_setMap, World.size_drew, size_drewN, upd, List.set_cons_zero, List.set_cons_succ, if_true, if_false, reduceIte, not_false_eq_true, ne_lt0, ne_lt1, ne_lt2, ne_lt3, ne_lt4] at O | skip)
        (try clear cs)
        (try clear v1)
        (try clear v2)
        (try clear v3)
      refine (CL.out _).mono ?_
      rintro e w4 ⟨rfl, o⟩
      replace O := O.callp [] o
      clear o
      simp only [put, List.cons_append, List.nil_append] at O
      have cs := O.facts
      try simp only [factsP, cellsP, roomP, foots_cons, foots_nil, foots_append, foot_pt, ptb, ptb_mapA, foot_mapA, factsP_mapA, foot_bun, List.append_nil, List.nil_append, List.cons_append, List.nodup_cons, List.nodup_nil, List.mem_cons, List.not_mem_nil, List.mem_singleton, List.forall_mem_cons, not_or, not_false_eq_true, and_true, true_and, or_false, false_or, forall_eq_or_imp, forall_eq, implies_true, Nat.zero_add, Nat.reduceAdd, and_assoc, Learn11.cells, learnL, ptb_iterA, factsP_iterA, ptb_learnA, factsP_learnA] at cs
      go_wp2_with fail
      go_ret2
      refine ⟨rfl, O.sel [false, false, true, true]⟩
    · have hnst : stale11 said f ⟨br, bn⟩ = false := by rw [ST.out]; simpa using hstale
      have hr := HR.out
      rw [hnst] at hr
      simp only [Bool.false_eq_true, if_false] at hr
      have HR2 := Lib.hid hr
      obtain ⟨said2, hs2⟩ : ∃ x, x = mset said f ⟨⟨br, bn⟩, v⟩ := ⟨_, rfl⟩
      rw [← hs2] at HR2
      have HS2 := Lib.hid hs2
      clear hr HR hnst ST hs2
      have hl2 : said2.length ≤ 10 := by
        rw [HS2.out, mset_len]
        split <;> omega
      have cs := O.facts
      try simp only [factsP, cellsP, roomP, foots_cons, foots_nil, foots_append, foot_pt, ptb, ptb_mapA, foot_mapA, factsP_mapA, foot_bun, List.append_nil, List.nil_append, List.cons_append, List.nodup_cons, List.nodup_nil, List.mem_cons, List.not_mem_nil, List.mem_singleton, List.forall_mem_cons, not_or, not_false_eq_true, and_true, true_and, or_false, false_or, forall_eq_or_imp, forall_eq, implies_true, Nat.zero_add, Nat.reduceAdd, and_assoc, Learn11.cells, learnL, ptb_iterA, factsP_iterA, ptb_learnA, factsP_learnA] at cs
      go_upto_region 4 with fail
      go_cut [52] (fun s52 wc => s52 = .bool false ∧ Mem w fp wc [.pt q [.int .u32 sr, .int .u8 sn, .string sv] 151, .pt w.heap.size [.int .u32 br, .int .u8 bn] 47, .pt lb [.int .i64 n, .map (some mb), .string chosen, .bool false] 148, mapA intK Said.val mb said])
      case first =>
        cases kn
        · go_wp2_with fail
          go_meet
          exact ⟨rfl, O⟩
        · have hl3 : ls = true := by simpa using hstale
          subst hl3
          go_wp2_with fail
          first | apply Mem.atCall | apply Mem.atCode | apply Mem.atList
          case h => repeat' (first | (with_reducible exact O) | (with_reducible apply Mem.drew) | (with_reducible apply Mem.drewN) | (with_reducible apply Mem.ext) | (with_reducible apply Mem.alloc) | (with_reducible apply Mem.setCell) | (with_reducible apply Mem.newMap (κ := intK) (vv := Said.val)) | (simp only [ptb, ptb_upd, foots_cons, List.mem_cons, World.size_alloc, size_ext, World.size_setCell, true_or, or_true, eq_self_iff_true, ptb_iterA, ptb_learnA]))
          case' k =>
            intro w3 O'
            (try clear O)
            have O := O'
            clear O'
            (first | simp only [sel, rst, List.cons_append, List.nil_append, World.size_alloc, size_ext, World.size_setCell, size_setMap, World.size_drew, size_drewN, upd, List.set_cons_zero, List.set_cons_succ, if_true, if_false, reduceIte, not_false_eq_true, ne_lt0, ne_lt1, ne_lt2, ne_lt3, ne_lt4, cs] at O | simp only [sel, rst, List.cons_append, List.nil_append, World.size_alloc, size_ext, World.size_setCell, size_setMap, World.size_drew, size_drewN, upd, List.set_cons_zero, List.set_cons_succ, if_true, if_false, reduceIte, not_false_eq_true, ne_lt0, ne_lt1, ne_lt2, ne_lt3, ne_lt4] at O | skip)
            (try clear cs)
            (try clear v1)
            (try clear v2)
            (try clear v3)
          refine (CL.out _).mono ?_
          rintro e w4 ⟨rfl, o⟩
          replace O := O.callp [] o
          clear o
          simp only [put, List.cons_append, List.nil_append] at O
          have cs := O.facts
          try simp only [factsP, cellsP, roomP, foots_cons, foots_nil, foots_append, foot_pt, ptb, ptb_mapA, foot_mapA, factsP_mapA, foot_bun, List.append_nil, List.nil_append, List.cons_append, List.nodup_cons, List.nodup_nil, List.mem_cons, List.not_mem_nil, List.mem_singleton, List.forall_mem_cons, not_or, not_false_eq_true, and_true, true_and, or_false, false_or, forall_eq_or_imp, forall_eq, implies_true, Nat.zero_add, Nat.reduceAdd, and_assoc, Learn11.cells, learnL, ptb_iterA, factsP_iterA, ptb_learnA, factsP_learnA] at cs
          go_wp2_with fail
          go_meet
          exact ⟨rfl, O⟩
      case rest =>
        clear O cs hstale
        obtain ⟨rfl, O⟩ := hcut
        have cs := O.facts
        try simp only [factsP, cellsP, roomP, foots_cons, foots_nil, foots_append, foot_pt, ptb, ptb_mapA, foot_mapA, factsP_mapA, foot_bun, List.append_nil, List.nil_append, List.cons_append, List.nodup_cons, List.nodup_nil, List.mem_cons, List.not_mem_nil, List.mem_singleton, List.forall_mem_cons, not_or, not_false_eq_true, and_true, true_and, or_false, false_or, forall_eq_or_imp, forall_eq, implies_true, Nat.zero_add, Nat.reduceAdd, and_assoc, Learn11.cells, learnL, ptb_iterA, factsP_iterA, ptb_learnA, factsP_learnA] at cs
        go_upto_region 7 with fail
        apply region_last_mem (by kernel_rfl) (by kernel_rfl)
        case O => repeat' (first | (with_reducible exact O) | (with_reducible apply Mem.drew) | (with_reducible apply Mem.drewN) | (with_reducible apply Mem.ext) | (with_reducible apply Mem.alloc) | (with_reducible apply Mem.setCell) | (with_reducible apply Mem.newMap (κ := intK) (vv := Said.val)) | (simp only [ptb, ptb_upd, foots_cons, List.mem_cons, World.size_alloc, size_ext, World.size_setCell, true_or, or_true, eq_self_iff_true, ptb_iterA, ptb_learnA]))
        case' h =>
          intro w5 O'
          (try clear O)
          have O := O'
          clear O'
          (first | simp only [sel, rst, List.cons_append, List.nil_append, World.size_alloc, size_ext, World.size_setCell, size_setMap, World.size_drew, size_drewN, upd, List.set_cons_zero, List.set_cons_succ, if_true, if_false, reduceIte, not_false_eq_true, ne_lt0, ne_lt1, ne_lt2, ne_lt3, ne_lt4, cs] at O | simp only [sel, rst, List.cons_append, List.nil_append, World.size_alloc, size_ext, World.size_setCell, size_setMap, World.size_drew, size_drewN, upd, List.set_cons_zero, List.set_cons_succ, if_true, if_false, reduceIte, not_false_eq_true, ne_lt0, ne_lt1, ne_lt2, ne_lt3, ne_lt4] at O | skip)
          (try clear cs)
          (try clear v1)
          (try clear v2)
          (try clear v3)
        simp only [List.length_cons, List.length_nil, Nat.reduceAdd, Nat.reduceSub, List.take_succ_cons, List.take_zero, List.drop_succ_cons, List.drop_zero]
        have cs := O.facts
        try simp only [factsP, cellsP, roomP, foots_cons, foots_nil, foots_append, foot_pt, ptb, ptb_mapA, foot_mapA, factsP_mapA, foot_bun, List.append_nil, List.nil_append, List.cons_append, List.nodup_cons, List.nodup_nil, List.mem_cons, List.not_mem_nil, List.mem_singleton, List.forall_mem_cons, not_or, not_false_eq_true, and_true, true_and, or_false, false_or, forall_eq_or_imp, forall_eq, implies_true, Nat.zero_add, Nat.reduceAdd, and_assoc, Learn11.cells, learnL, ptb_iterA, factsP_iterA, ptb_learnA, factsP_learnA] at cs
        repeat still_step
        refine wpStill_nil ?_
        go_upto_region 9 with ((at_mapUpdate; refine wpList_mapUpdate_mem (O.front1 [false, false, false, false, true] rfl) rfl _ _ _ _ rfl Try.underlying146 rfl f HK.out ⟨⟨br, bn⟩, v⟩ rfl rfl ?_; intro w6 O6))
        (try clear cs)
        (try clear v1)
        (try clear v2)
        (try clear v3)
        replace O := O6.unfront
        clear O6
        simp only [put, List.cons_append, List.nil_append] at O
        rw [← HS2.out] at O
        have hb : wc.heap.size = wc.heap.size := rfl
        generalize wc.heap.size = nb at O ⊢
        have cs := O.facts
        try simp only [factsP, cellsP, roomP, foots_cons, foots_nil, foots_append, foot_pt, ptb, ptb_mapA, foot_mapA, factsP_mapA, foot_bun, List.append_nil, List.nil_append, List.cons_append, List.nodup_cons, List.nodup_nil, List.mem_cons, List.not_mem_nil, List.mem_singleton, List.forall_mem_cons, not_or, not_false_eq_true, and_true, true_and, or_false, false_or, forall_eq_or_imp, forall_eq, implies_true, Nat.zero_add, Nat.reduceAdd, and_assoc, Learn11.cells, learnL, ptb_iterA, factsP_iterA, ptb_learnA, factsP_learnA] at cs
        go_wp2_with ((at_range; refine wpList_range_mem (O.front1 [false, false, false, false, true] rfl) rfl _ _ rfl Try.underlying146 rfl ?_; intro r w7 O7))
        clear cs hb
        replace O := O7.unfront
        clear O7
        simp only [put, List.cons_append, List.nil_append] at O
        try go_frame
        go_loopw [13] (fun s13 wr => ∃ (left : List (Int × Said)) (cur : Option (Int × Said)) (same : Nat), s13 = .int .i64 same ∧ same + told11 left ⟨⟨br, bn⟩, v⟩ = told11 said2 ⟨⟨br, bn⟩, v⟩ ∧ same + left.length ≤ 10 ∧
          Mem w fp wr [.pt nb [.int .u32 br, .int .u8 bn, .string v] 151, .pt lb [.int .i64 n, .map (some mb), .string chosen, .bool false] 148, iterA intK Said.val mb said2 r left cur]) (fun s13 wr => iterLeft r wr)
        case atStart =>
          exact ⟨said2, none, 0, rfl, by omega, by omega, O.sel [true, false, false, true, true]⟩
        case round =>
          clear O
          obtain ⟨left, cur, same, rfl, hsm, hln, O⟩ := hrel
          by_cases hz : left = []
          · subst hz
            have hsm2 : told11 said2 ⟨⟨br, bn⟩, v⟩ = same := by simp [told11] at hsm; unfold told11; omega
            have hr := HR2.out
            rw [hsm2] at hr
            by_cases hq : (same : Int) ≤ n / 2
            · simp only [hq, if_true] at hr
              subst hr
              have cs := O.facts
              try simp only [factsP, cellsP, roomP, foots_cons, foots_nil, foots_append, foot_pt, ptb, ptb_mapA, foot_mapA, factsP_mapA, foot_bun, List.append_nil, List.nil_append, List.cons_append, List.nodup_cons, List.nodup_nil, List.mem_cons, List.not_mem_nil, List.mem_singleton, List.forall_mem_cons, not_or, not_false_eq_true, and_true, true_and, or_false, false_or, forall_eq_or_imp, forall_eq, implies_true, Nat.zero_add, Nat.reduceAdd, and_assoc, Learn11.cells, learnL, ptb_iterA, factsP_iterA, ptb_learnA, factsP_learnA] at cs
              go_wp2_with ((at_next; refine wpList_next_mem (O.front1 [false, false, true] rfl) rfl _ rfl rfl (fun _ => ?_) (fun i k x w8 hi O8 => absurd hi (by simp))))
              go_ret2
              refine ⟨rfl, ?_⟩
              have O9 := (O.front1 [false, false, true] rfl).rangeEnd
              exact (O9.sel [true, false, true]).swap
            · simp only [hq, if_false] at hr
              subst hr
              have cs := O.facts
              try simp only [factsP, cellsP, roomP, foots_cons, foots_nil, foots_append, foot_pt, ptb, ptb_mapA, foot_mapA, factsP_mapA, foot_bun, List.append_nil, List.nil_append, List.cons_append, List.nodup_cons, List.nodup_nil, List.mem_cons, List.not_mem_nil, List.mem_singleton, List.forall_mem_cons, not_or, not_false_eq_true, and_true, true_and, or_false, false_or, forall_eq_or_imp, forall_eq, implies_true, Nat.zero_add, Nat.reduceAdd, and_assoc, Learn11.cells, learnL, ptb_iterA, factsP_iterA, ptb_learnA, factsP_learnA] at cs
              go_wp2_with ((at_next; refine wpList_next_mem (O.front1 [false, false, true] rfl) rfl _ rfl rfl (fun _ => ?_) (fun i k x w8 hi O8 => absurd hi (by simp))))
              go_ret2
              refine ⟨rfl, ?_⟩
              have O9 := ((O.front1 [false, false, true] rfl).rangeEnd.sel [true, false, true]).swap
              exact ((O9.set_at (j := 2) (v := .string v) []).set_at (j := 3) (v := .bool true) [])
          · have hit := iterLeft_of (O.hold (iterA intK Said.val mb said2 r left cur) (by simp))
            have cs := O.facts
            try simp only [factsP, cellsP, roomP, foots_cons, foots_nil, foots_append, foot_pt, ptb, ptb_mapA, foot_mapA, factsP_mapA, foot_bun, List.append_nil, List.nil_append, List.cons_append, List.nodup_cons, List.nodup_nil, List.mem_cons, List.not_mem_nil, List.mem_singleton, List.forall_mem_cons, not_or, not_false_eq_true, and_true, true_and, or_false, false_or, forall_eq_or_imp, forall_eq, implies_true, Nat.zero_add, Nat.reduceAdd, and_assoc, Learn11.cells, learnL, ptb_iterA, factsP_iterA, ptb_learnA, factsP_learnA] at cs
            go_upto_region 11 with ((at_next; refine wpList_next_mem (O.front1 [false, false, true] rfl) rfl _ rfl rfl (fun h => absurd h hz) (fun i k x w8 hi O8 => ?_)))
            clear O cs
            replace O := O8.unfront
            clear O8
            simp only [put, List.cons_append, List.nil_append] at O
            have hcnt := count_erase (fun p : Int × Said => p.2.same ⟨⟨br, bn⟩, v⟩) left i (k, x) hi
            have hlen : (left.eraseIdx i).length + 1 = left.length := by
              rw [List.length_eraseIdx_of_lt (List.getElem?_eq_some_iff.1 hi).1]
              have := (List.getElem?_eq_some_iff.1 hi).1
              omega
            obtain ⟨⟨xr, xn⟩, xv⟩ := x
            have HIT := Lib.hid hit
            have HSM := Lib.hid hsm
            have HCN := Lib.hid hcnt
            clear hit hsm hcnt hi hz
            have cs := O.facts
            try simp only [factsP, cellsP, roomP, foots_cons, foots_nil, foots_append, foot_pt, ptb, ptb_mapA, foot_mapA, factsP_mapA, foot_bun, List.append_nil, List.nil_append, List.cons_append, List.nodup_cons, List.nodup_nil, List.mem_cons, List.not_mem_nil, List.mem_singleton, List.forall_mem_cons, not_or, not_false_eq_true, and_true, true_and, or_false, false_or, forall_eq_or_imp, forall_eq, implies_true, Nat.zero_add, Nat.reduceAdd, and_assoc, Learn11.cells, learnL, ptb_iterA, factsP_iterA, ptb_learnA, factsP_learnA] at cs
            go_upto_region 12 with ((refine wpList_entry_mem (O.front1 [false, false, true] rfl) rfl _ rfl rfl ?_; simp only [Said.val]))
            first | apply Mem.atCall | apply Mem.atCode | apply Mem.atList
            case h => repeat' (first | (with_reducible exact O) | (with_reducible apply Mem.drew) | (with_reducible apply Mem.drewN) | (with_reducible apply Mem.ext) | (with_reducible apply Mem.alloc) | (with_reducible apply Mem.setCell) | (with_reducible apply Mem.newMap (κ := intK) (vv := Said.val)) | (simp only [ptb, ptb_upd, foots_cons, List.mem_cons, World.size_alloc, size_ext, World.size_setCell, true_or, or_true, eq_self_iff_true, ptb_iterA, ptb_learnA]))
            case' k =>
              intro w9 O'
              (try clear O)
              have O := O'
              clear O'
              (first | simp only [sel, rst, List.cons_append, List.nil_append, World.size_alloc, size_ext, World.size_setCell, size_setMap, World.size_drew, size_drewN, upd, List.set_cons_zero, List.set_cons_succ, if_true, if_false, reduceIte, not_false_eq_true, ne_lt0, ne_lt1, ne_lt2, ne_lt3, ne_lt4, cs] at O | simp only [sel, rst, List.cons_append, List.nil_append, World.size_alloc, size_ext, World.size_setCell, size_setMap, World.size_drew, size_drewN, upd, List.set_cons_zero, List.set_cons_succ, if_true, if_false, reduceIte, not_false_eq_true, ne_lt0, ne_lt1, ne_lt2, ne_lt3, ne_lt4] at O | skip)
              (try clear cs)
              (try clear v1)
              (try clear v2)
              (try clear v3)
            have hit9 := iterLeft_of (O.hold (iterA intK Said.val mb said2 r (left.eraseIdx i) (some (k, ⟨⟨xr, xn⟩, xv⟩))) (by simp))
            have HIT9 := Lib.hid hit9
            clear hit9
            have hs10 : same ≤ 10 := by omega
            have hc : ¬ xr = br ∨ (xr = br ∧ ¬ xn = bn) ∨ (xr = br ∧ xn = bn ∧ ¬ xv.toList = v.toList) ∨ (xr = br ∧ xn = bn ∧ xv.toList = v.toList) := by
              by_cases e1 : xr = br <;> by_cases e2 : xn = bn <;> by_cases e3 : xv.toList = v.toList <;> simp [e1, e2, e3]
            by_cases hall : xr = br ∧ xn = bn ∧ xv.toList = v.toList
            · obtain ⟨rfl, rfl, hxv⟩ := hall
              clear hc
              have hsame : (Said.mk ⟨xr, xn⟩ xv).same ⟨⟨xr, xn⟩, v⟩ = true := by simp [Said.same, hxv]
              have HSA := Lib.hid hsame
              clear hsame
              have cs := O.facts
              try simp only [factsP, cellsP, roomP, foots_cons, foots_nil, foots_append, foot_pt, ptb, ptb_mapA, foot_mapA, factsP_mapA, foot_bun, List.append_nil, List.nil_append, List.cons_append, List.nodup_cons, List.nodup_nil, List.mem_cons, List.not_mem_nil, List.mem_singleton, List.forall_mem_cons, not_or, not_false_eq_true, and_true, true_and, or_false, false_or, forall_eq_or_imp, forall_eq, implies_true, Nat.zero_add, Nat.reduceAdd, and_assoc, Learn11.cells, learnL, ptb_iterA, factsP_iterA, ptb_learnA, factsP_learnA] at cs
              go_wp2_with fail
              go_roundw
              case rel =>
                refine ⟨left.eraseIdx i, _, same + 1, by go_num, ?_, by omega, O.sel [false, true, true, true]⟩
                have h1 := HSM.out
                have h2 := HCN.out
                unfold told11 at h1 ⊢
                rw [h2, HSA.out] at h1
                simp only [if_true] at h1
                omega
              case measure =>
                rw [HIT9.out, HIT.out]
                omega
            · have hsame : (Said.mk ⟨xr, xn⟩ xv).same ⟨⟨br, bn⟩, v⟩ = false := by simp only [Said.same, decide_eq_false_iff_not]; exact hall
              have HSA := Lib.hid hsame
              clear hsame
              rcases hc with h5 | ⟨rfl, h5⟩ | ⟨rfl, rfl, h5⟩ | h5
              case inr.inr.inr => exact absurd h5 hall
              all_goals
                clear hall
                have cs := O.facts
                try simp only [factsP, cellsP, roomP, foots_cons, foots_nil, foots_append, foot_pt, ptb, ptb_mapA, foot_mapA, factsP_mapA, foot_bun, List.append_nil, List.nil_append, List.cons_append, List.nodup_cons, List.nodup_nil, List.mem_cons, List.not_mem_nil, List.mem_singleton, List.forall_mem_cons, not_or, not_false_eq_true, and_true, true_and, or_false, false_or, forall_eq_or_imp, forall_eq, implies_true, Nat.zero_add, Nat.reduceAdd, and_assoc, Learn11.cells, learnL, ptb_iterA, factsP_iterA, ptb_learnA, factsP_learnA] at cs
                go_wp2_with fail
                go_roundw
                case rel =>
                  refine ⟨left.eraseIdx i, _, same, rfl, ?_, by omega, O.sel [false, true, true, true]⟩
                  have h1 := HSM.out
                  have h2 := HCN.out
                  unfold told11 at h1 ⊢
                  rw [h2, HSA.out] at h1
                  simp only [Bool.false_eq_true, if_false] at h1
                  omega
                case measure =>
                  rw [HIT9.out, HIT.out]
                  omega
theorem pre_bun {w : World} {l : List Asn} (h : Pre w [bun l]) : Pre w l := by
  have := Mem.open_ h
  simpa [Pre, foots, foot_bun] using this
theorem mem_bun {w w' : World} {l l' : List Asn} (h : Mem w (foots l) w' l') : Mem w (foots [bun l]) w' [bun l'] := by
  have h1 : Mem w (foots [bun l]) w' l' := by simpa [foots, foot_bun] using h
  exact Mem.shut (L := []) (by simpa using h1)
section
variable (w : World)
theorem lA_New (n : Int) (h : 1 ≤ n ∧ n ≤ 9) : Calls Try.prog 37 #[.int .i64 n] w (fun e w' => e = .returned (.tuple #[.pointer (some ⟨w.heap.size + 1, 0, none⟩), .int .i64 0]) ∧ Mem w [] w' [learnA (w.heap.size + 1) w.heap.size (newL n)]) :=
  (learn_New n w h).mono fun _ _ ⟨he, hm⟩ => ⟨he, Mem.shut (L := []) (by simpa using hm)⟩
theorem lA_Accepted_yes (lb mb : Nat) (l : Learn11) (f : Int) (b : Ballot) (v : ByteArray) (h : Pre w [learnA lb mb l]) (h0 : l.is = false) (h1 : 0 ≤ f) (h2 : f < l.n) (h3 : l.n ≤ 9) (hsz : l.said.length ≤ 9) :
    Calls Try.prog 39 #[.pointer (some ⟨lb, 0, none⟩), .int .i64 f, b.val, .string v] w (fun e w' => e = .returned (.tuple #[.string (accepted11 l f b v).1, .bool (accepted11 l f b v).2.1]) ∧ Mem w (foots [learnA lb mb l]) w' [learnA lb mb (accepted11 l f b v).2.2]) :=
  (learn_Accepted_yes w lb mb l f b v (pre_bun h) h0 h1 h2 h3 hsz).mono fun _ _ ⟨he, hm⟩ => ⟨he, mem_bun hm⟩
theorem lA_Chosen (lb mb : Nat) (l : Learn11) (h : Pre w [learnA lb mb l]) : Calls Try.prog 52 #[.pointer (some ⟨lb, 0, none⟩)] w (fun e w' => e = .returned (.tuple #[.string l.chosen, .bool l.is]) ∧ Mem w [] w' []) := learn_Chosen w lb mb l (pre_bun h)
theorem lA_Accepted_no (lb mb : Nat) (l : Learn11) (f : Int) (b : Ballot) (v : ByteArray) (h : Pre w [learnA lb mb l]) (hn : l.is = true ∨ f < 0 ∨ l.n ≤ f) :
    Calls Try.prog 39 #[.pointer (some ⟨lb, 0, none⟩), .int .i64 f, b.val, .string v] w (fun e w' => e = .returned (.tuple #[.string .empty, .bool false]) ∧ Mem w [] w' []) := learn_Accepted_no w lb mb l f b v (pre_bun h) hn
end
/-- the cells of a bundle, for the walk -/
theorem bun_facts {w0 w : World} {F : List Nat} {L : List Asn} (l : List Asn) (h : Mem w0 F w L) (hm : bun l ∈ L) : factsP w l := facts_of l (h.hold _ hm) (fun b hb => h.lt b (mem_foots hm hb))
theorem call0 {w w' : World} {l : List Asn} (h : Pre w l) (hm : Mem w [] w' []) : Mem w (foots l) w' l := by
  have := h.call [] hm
  simpa [Tk.sel, rst] using this
section
variable (w : World)
theorem lA_Accepted (lb mb : Nat) (l : Learn11) (f : Int) (b : Ballot) (v : ByteArray) (h : Pre w [learnA lb mb l]) (h3 : l.n ≤ 9) (hsz : l.said.length ≤ 9) :
    Calls Try.prog 39 #[.pointer (some ⟨lb, 0, none⟩), .int .i64 f, b.val, .string v] w (fun e w' => e = .returned (.tuple #[.string (accepted11 l f b v).1, .bool (accepted11 l f b v).2.1]) ∧ Mem w (foots [learnA lb mb l]) w' [learnA lb mb (accepted11 l f b v).2.2]) := by
  by_cases hno : l.is = true ∨ f < 0 ∨ l.n ≤ f
  · have hv : accepted11 l f b v = (.empty, false, l) := by
      unfold accepted11
      rw [if_pos]
      rcases hno with h | h | h
      · exact .inl h
      · exact .inr (.inl h)
      · exact .inr (.inr (.inl h))
    rw [hv]
    exact (lA_Accepted_no w lb mb l f b v h hno).mono fun _ _ ⟨he, hm⟩ => ⟨he, call0 h hm⟩
  · simp only [not_or] at hno
    exact lA_Accepted_yes w lb mb l f b v h (by simpa using hno.1) (by omega) (by omega) h3 hsz
end
end Go.Proofs.Ytplliabmnhigbaa
