/- WALKS: a proposer (New, Begin, Promise, Ballot): it comes to plain functions. -/
import Derived.Test.YtkhpikjmhamppaaAccTab
import Derived.Test.YtkhpikjmhamppaaList
set_option linter.unusedVariables false
set_option linter.unusedSimpArgs false
namespace Go.Proofs.Ytkhpikjmhamppaa
open Go.RowKit Go.Tk

theorem mLess (a b : Ballot) (w : World) : Calls Try.prog 13 #[a.val, b.val] w (fun e w' => e = .returned (.bool (less a b)) ∧ Mem w [] w' []) :=
  (acc_Less a b w).mono fun _ _ ⟨he, y, hy⟩ => ⟨he, by subst hy; exact Mem.begin.ext⟩
/-- a callee that only reads, met in a region of reads -/
theorem quietMem {f : FuncId} {args : Array Value} {w : World} {x : Ext} {v : Value} (h : Calls Try.prog f args (w.ext x) (fun e w' => e = .returned v ∧ Mem (w.ext x) [] w' [])) : Calls Try.prog f args (w.ext x) fun e w'' => e = .returned v ∧ ∃ y, w'' = w.ext y :=
  h.mono fun _ _ ⟨he, hm⟩ => by
    obtain ⟨y, hy⟩ := of_below (hm.fr.below rfl)
    exact ⟨he, _, hy.trans ext_ext⟩
abbrev intK : KeyTy Try.prog 3 Int := intKey Try.underlying3
structure Prop11 where
  node : Int
  n : Int
  b : Ballot
  prom : List (Int × Bool)
  best : Acc
  own : ByteArray
def Prop11.cells (p : Prop11) (mo : Option Nat) : List Value := [.int .i64 p.node, .int .i64 p.n, .int .u32 p.b.r, .int .u8 p.b.n, .map mo, .bool p.best.is, .int .u32 p.best.b.r, .int .u8 p.best.b.n, .string p.best.v, .string p.own]
/-- a proposer's parts: without a ballot yet, and with one -/
def propL (pb : Nat) (mo : Option Nat) (p : Prop11) : List Asn := .pt pb (p.cells mo) 85 :: (match mo with | some mb => [mapA intK Value.bool mb p.prom] | none => [])
def newP (node n : Int) : Prop11 := ⟨node, n, noB, [], noA, .empty⟩
/-- what a proposer always is -/
def Prop11.wf (p : Prop11) (mo : Option Nat) : Prop := 0 ≤ p.node ∧ p.node ≤ 255 ∧ 1 ≤ p.n ∧ p.n ≤ 9 ∧ 0 ≤ p.b.r ∧ (mo = none → p.b.r = 0)
def begin11 (p : Prop11) (round : Int) (v : ByteArray) : Ballot × Int × Option Prop11 :=
  if round = 0 then (noB, 1, none) else if round ≤ p.b.r then (noB, 111, none) else (⟨round, p.node⟩, 0, some ⟨p.node, p.n, ⟨round, p.node⟩, [], noA, v⟩)
def promise11 (p : Prop11) (f : Int) (b : Ballot) (a : Acc) : ByteArray × Bool × Prop11 :=
  if p.b.r = 0 ∨ b ≠ p.b ∨ f < 0 ∨ p.n ≤ f ∨ (mget p.prom f).getD false = true then (.empty, false, p) else
  let best := if a.is && (!p.best.is || less p.best.b a.b) then a else p.best
  let prom := mset p.prom f true
  let p' : Prop11 := ⟨p.node, p.n, p.b, prom, best, p.own⟩
  if (prom.length : Int) ≠ p.n / 2 + 1 then (.empty, false, p') else if best.is then (best.v, true, p') else (p.own, true, p')

set_option maxRecDepth 100000 in
set_option maxHeartbeats 4000000 in
theorem prop_New (node n : Int) (w : World) (h : 0 ≤ node ∧ node ≤ 255 ∧ 1 ≤ n ∧ n ≤ 9) : Calls Try.prog 9 #[.int .i64 node, .int .i64 n] w (fun e w' => e = .returned (.tuple #[.pointer (some ⟨w.heap.size, 0, none⟩), .int .i64 0]) ∧ Mem w [] w' (propL w.heap.size none (newP node n))) := by
  obtain ⟨h1, h2, h3, h4⟩ := h
  have O : Mem w [] w [] := Mem.begin
  go_enter Try.func9, Try.ntmps9
  go_wp2
  go_ret2
  refine ⟨rfl, ?_⟩
  exact O.alloc _ _
set_option maxRecDepth 100000 in
set_option maxHeartbeats 4000000 in
theorem prop_New_bad (node n : Int) (w : World) (h : ¬ (0 ≤ node ∧ node ≤ 255 ∧ 1 ≤ n ∧ n ≤ 9)) : Calls Try.prog 9 #[.int .i64 node, .int .i64 n] w (fun e w' => e = .returned (.tuple #[.pointer none, .int .i64 1]) ∧ w' = w) := by
  have hc : node < 0 ∨ (0 ≤ node ∧ 255 < node) ∨ (0 ≤ node ∧ node ≤ 255 ∧ n < 1) ∨ (0 ≤ node ∧ node ≤ 255 ∧ 1 ≤ n ∧ 9 < n) := by omega
  clear h
  rcases hc with h | ⟨h, h2⟩ | ⟨h, h2, h3⟩ | ⟨h, h2, h3, h4⟩
  all_goals
    go_enter Try.func9, Try.ntmps9
    go_wp2
    go_ret2
    exact ⟨rfl, rfl⟩
/-- Begin where it is refused -/
theorem prop_Begin_no (w : World) (pb : Nat) (mo : Option Nat) (p : Prop11) (round : Int) (v : ByteArray) (h : Pre w (propL pb mo p)) (hr : 0 ≤ round) (hn : round = 0 ∨ round ≤ p.b.r) :
    Calls Try.prog 11 #[.pointer (some ⟨pb, 0, none⟩), .int .u32 round, .string v] w (fun e w' => e = .returned (.tuple #[noB.val, .int .i64 (if round = 0 then 1 else 111)]) ∧ Mem w [] w' []) := by
  obtain ⟨L2, hL⟩ : ∃ L2, propL pb mo p = .pt pb (p.cells mo) 85 :: L2 := ⟨_, rfl⟩
  rw [hL] at h
  have H := Lib.hid h
  clear h hL
  obtain ⟨node, n, ⟨pr, pn⟩, prom, best, own⟩ := p
  have O : Mem w [] w [] := Mem.begin
  simp only at hn
  by_cases h0 : round = 0
  · subst h0
    have hb : (if (0 : Int) = 0 then (1 : Int) else 111) = 1 := rfl
    rw [hb]
    clear hb hn
    go_enter Try.func11, Try.ntmps11
    have cs := O.facts
    simp only [factsP, cellsP, roomP, foots_cons, foots_nil, foots_append, foot_pt, ptb, ptb_mapA, foot_mapA, factsP_mapA, foot_bun, List.append_nil, List.nil_append, List.cons_append, List.nodup_cons, List.nodup_nil, List.mem_cons, List.not_mem_nil, List.mem_singleton, List.forall_mem_cons, not_or, not_false_eq_true, and_true, true_and, or_false, false_or, forall_eq_or_imp, forall_eq, implies_true, Nat.zero_add, Nat.reduceAdd, and_assoc, Prop11.cells] at cs
    go_wp2_with fail
    refine bodyPost_ret (v := .tuple #[noB.val, .int .i64 1]) (by simp [results, Try.results11, go_sem, Ballot.val, noB]) rfl ⟨rfl, ?_⟩
    apply Mem.to []
    · repeat' (first | (with_reducible exact O) | (with_reducible apply Mem.drew) | (with_reducible apply Mem.drewN) | (with_reducible apply Mem.ext) | (with_reducible apply Mem.alloc) | (with_reducible apply Mem.setCell) | (with_reducible apply Mem.newMap (κ := intK) (vv := Value.bool)) | (simp only [ptb, ptb_upd, foots_cons, List.mem_cons, World.size_alloc, size_ext, World.size_setCell, true_or, or_true, eq_self_iff_true]))
    · first | with_reducible rfl | (simp only [sel, rst, List.cons_append, List.nil_append, World.size_alloc, size_ext, World.size_setCell, size_setMap, World.size_drew, size_drewN, upd, List.set_cons_zero, List.set_cons_succ, if_true, if_false, reduceIte, not_false_eq_true, ne_lt0, ne_lt1, ne_lt2, ne_lt3, ne_lt4, cs]; done) | (simp only [sel, rst, List.cons_append, List.nil_append, World.size_alloc, size_ext, World.size_setCell, size_setMap, World.size_drew, size_drewN, upd, List.set_cons_zero, List.set_cons_succ, if_true, if_false, reduceIte, not_false_eq_true, ne_lt0, ne_lt1, ne_lt2, ne_lt3, ne_lt4]; done) | (simp only [sel, rst, List.cons_append, List.nil_append, World.size_alloc, size_ext, World.size_setCell, size_setMap, World.size_drew, size_drewN, upd, List.set_cons_zero, List.set_cons_succ, if_true, if_false, reduceIte, not_false_eq_true, ne_lt0, ne_lt1, ne_lt2, ne_lt3, ne_lt4, cs]; rfl) | (simp only [sel, rst, List.cons_append, List.nil_append, World.size_alloc, size_ext, World.size_setCell, size_setMap, World.size_drew, size_drewN, upd, List.set_cons_zero, List.set_cons_succ, if_true, if_false, reduceIte, not_false_eq_true, ne_lt0, ne_lt1, ne_lt2, ne_lt3, ne_lt4]; rfl)
  · have hb : (if round = 0 then (1 : Int) else 111) = 111 := if_neg h0
    rw [hb]
    have hle : round ≤ pr := by omega
    clear hb hn
    have h1 : (round == 0) = false := by simp [h0]
    skip
    go_enter Try.func11, Try.ntmps11
    have cs := O.facts
    simp only [factsP, cellsP, roomP, foots_cons, foots_nil, foots_append, foot_pt, ptb, ptb_mapA, foot_mapA, factsP_mapA, foot_bun, List.append_nil, List.nil_append, List.cons_append, List.nodup_cons, List.nodup_nil, List.mem_cons, List.not_mem_nil, List.mem_singleton, List.forall_mem_cons, not_or, not_false_eq_true, and_true, true_and, or_false, false_or, forall_eq_or_imp, forall_eq, implies_true, Nat.zero_add, Nat.reduceAdd, and_assoc, Prop11.cells] at cs
    have v1 := (H.out.view O.fr).facts
    try simp only [cellsQ, roomP, and_assoc, and_true, true_and, Nat.add_zero, Nat.zero_add, Nat.reduceAdd, factsP, cellsP, roomP, foots_cons, foots_nil, foots_append, foot_pt, ptb, ptb_mapA, foot_mapA, factsP_mapA, foot_bun, List.append_nil, List.nil_append, List.cons_append, List.nodup_cons, List.nodup_nil, List.mem_cons, List.not_mem_nil, List.mem_singleton, List.forall_mem_cons, not_or, not_false_eq_true, and_true, true_and, or_false, false_or, forall_eq_or_imp, forall_eq, implies_true, Nat.zero_add, Nat.reduceAdd, and_assoc, Prop11.cells] at v1
    go_wp2_with fail
    refine bodyPost_ret (v := .tuple #[noB.val, .int .i64 111]) (by simp [results, Try.results11, go_sem, Ballot.val, noB]) rfl ⟨rfl, ?_⟩
    apply Mem.to []
    · repeat' (first | (with_reducible exact O) | (with_reducible apply Mem.drew) | (with_reducible apply Mem.drewN) | (with_reducible apply Mem.ext) | (with_reducible apply Mem.alloc) | (with_reducible apply Mem.setCell) | (with_reducible apply Mem.newMap (κ := intK) (vv := Value.bool)) | (simp only [ptb, ptb_upd, foots_cons, List.mem_cons, World.size_alloc, size_ext, World.size_setCell, true_or, or_true, eq_self_iff_true]))
    · first | with_reducible rfl | (simp only [sel, rst, List.cons_append, List.nil_append, World.size_alloc, size_ext, World.size_setCell, size_setMap, World.size_drew, size_drewN, upd, List.set_cons_zero, List.set_cons_succ, if_true, if_false, reduceIte, not_false_eq_true, ne_lt0, ne_lt1, ne_lt2, ne_lt3, ne_lt4, cs]; done) | (simp only [sel, rst, List.cons_append, List.nil_append, World.size_alloc, size_ext, World.size_setCell, size_setMap, World.size_drew, size_drewN, upd, List.set_cons_zero, List.set_cons_succ, if_true, if_false, reduceIte, not_false_eq_true, ne_lt0, ne_lt1, ne_lt2, ne_lt3, ne_lt4]; done) | (simp only [sel, rst, List.cons_append, List.nil_append, World.size_alloc, size_ext, World.size_setCell, size_setMap, World.size_drew, size_drewN, upd, List.set_cons_zero, List.set_cons_succ, if_true, if_false, reduceIte, not_false_eq_true, ne_lt0, ne_lt1, ne_lt2, ne_lt3, ne_lt4, cs]; rfl) | (simp only [sel, rst, List.cons_append, List.nil_append, World.size_alloc, size_ext, World.size_setCell, size_setMap, World.size_drew, size_drewN, upd, List.set_cons_zero, List.set_cons_succ, if_true, if_false, reduceIte, not_false_eq_true, ne_lt0, ne_lt1, ne_lt2, ne_lt3, ne_lt4]; rfl)
set_option maxRecDepth 100000 in
set_option maxHeartbeats 4000000 in
theorem prop_Begin (w : World) (pb : Nat) (mo : Option Nat) (p : Prop11) (round : Int) (v : ByteArray) (h : Pre w (propL pb mo p)) (hp : 0 ≤ p.node ∧ p.node ≤ 255) (hr : ¬ (round = 0)) (hn : ¬ (round ≤ p.b.r)) :
    Calls Try.prog 11 #[.pointer (some ⟨pb, 0, none⟩), .int .u32 round, .string v] w (fun e w' => e = .returned (.tuple #[.agg #[.int .u32 round, .int .u8 p.node], .int .i64 0]) ∧
      ∃ mb, Mem w (foots (propL pb mo p)) w' (propL pb (some mb) ⟨p.node, p.n, ⟨round, p.node⟩, [], noA, v⟩)) := by
  skip
  obtain ⟨fp, hfp⟩ : ∃ F, F = foots (propL pb mo p) := ⟨_, rfl⟩
  have O : Mem w fp w (.pt pb (p.cells mo) 85 :: []) := by rw [hfp]; exact Mem.sub h (List.singleton_sublist.2 (List.mem_cons_self ..))
  rw [← hfp]
  clear hfp h
  obtain ⟨node, n, ⟨pr, pn⟩, prom, best, own⟩ := p
  simp only at hp hn
  obtain ⟨hp1, hp2⟩ := hp
  simp only [Prop11.cells] at O
  have hmm := @run_makeMap Try.prog
  have h1 : (round == 0) = false := by simp [hr]
  have hc : IntKind.u8.wrap node = node := by simp [IntKind.wrap, IntKind.signed, IntKind.bits]; omega
  go_enter Try.func11, Try.ntmps11
  have cs := O.facts
  simp only [factsP, cellsP, roomP, foots_cons, foots_nil, foots_append, foot_pt, ptb, ptb_mapA, foot_mapA, factsP_mapA, foot_bun, List.append_nil, List.nil_append, List.cons_append, List.nodup_cons, List.nodup_nil, List.mem_cons, List.not_mem_nil, List.mem_singleton, List.forall_mem_cons, not_or, not_false_eq_true, and_true, true_and, or_false, false_or, forall_eq_or_imp, forall_eq, implies_true, Nat.zero_add, Nat.reduceAdd, and_assoc, Prop11.cells] at cs
  go_wp2_with fail
  refine bodyPost_ret (v := .tuple #[.agg #[.int .u32 round, .int .u8 node], .int .i64 0]) (by simp [results, Try.results11, go_sem, cs]) rfl ⟨rfl, w.heap.size + 1, ?_⟩
  simp only [propL, Prop11.cells, noA, noB]
  refine Mem.perm ?_ (List.Perm.swap _ _ _)
  apply Mem.to [true, false, true]
  · repeat' (first | (with_reducible exact O) | (with_reducible apply Mem.drew) | (with_reducible apply Mem.drewN) | (with_reducible apply Mem.ext) | (with_reducible apply Mem.alloc) | (with_reducible apply Mem.setCell) | (with_reducible apply Mem.newMap (κ := intK) (vv := Value.bool)) | (simp only [ptb, ptb_upd, foots_cons, List.mem_cons, World.size_alloc, size_ext, World.size_setCell, true_or, or_true, eq_self_iff_true]))
  · first | with_reducible rfl | (simp only [sel, rst, List.cons_append, List.nil_append, World.size_alloc, size_ext, World.size_setCell, size_setMap, World.size_drew, size_drewN, upd, List.set_cons_zero, List.set_cons_succ, if_true, if_false, reduceIte, not_false_eq_true, ne_lt0, ne_lt1, ne_lt2, ne_lt3, ne_lt4, cs]; done) | (simp only [sel, rst, List.cons_append, List.nil_append, World.size_alloc, size_ext, World.size_setCell, size_setMap, World.size_drew, size_drewN, upd, List.set_cons_zero, List.set_cons_succ, if_true, if_false, reduceIte, not_false_eq_true, ne_lt0, ne_lt1, ne_lt2, ne_lt3, ne_lt4]; done) | (simp only [sel, rst, List.cons_append, List.nil_append, World.size_alloc, size_ext, World.size_setCell, size_setMap, World.size_drew, size_drewN, upd, List.set_cons_zero, List.set_cons_succ, if_true, if_false, reduceIte, not_false_eq_true, ne_lt0, ne_lt1, ne_lt2, ne_lt3, ne_lt4, cs]; rfl) | (simp only [sel, rst, List.cons_append, List.nil_append, World.size_alloc, size_ext, World.size_setCell, size_setMap, World.size_drew, size_drewN, upd, List.set_cons_zero, List.set_cons_succ, if_true, if_false, reduceIte, not_false_eq_true, ne_lt0, ne_lt1, ne_lt2, ne_lt3, ne_lt4]; rfl)
set_option maxRecDepth 100000 in
set_option maxHeartbeats 4000000 in
theorem prop_Ballot (w : World) (pb : Nat) (mo : Option Nat) (p : Prop11) (h : Pre w (propL pb mo p)) :
    Calls Try.prog 21 #[.pointer (some ⟨pb, 0, none⟩)] w (fun e w' => e = .returned (.tuple #[p.b.val, .bool (decide (0 < p.b.r))]) ∧ Mem w [] w' []) := by
  obtain ⟨L2, hL⟩ : ∃ L2, propL pb mo p = .pt pb (p.cells mo) 85 :: L2 := ⟨_, rfl⟩
  rw [hL] at h
  have H := Lib.hid h
  clear h hL
  obtain ⟨node, n, ⟨pr, pn⟩, prom, best, own⟩ := p
  have O : Mem w [] w [] := Mem.begin
  skip
  go_enter Try.func21, Try.ntmps21
  have cs := O.facts
  simp only [factsP, cellsP, roomP, foots_cons, foots_nil, foots_append, foot_pt, ptb, ptb_mapA, foot_mapA, factsP_mapA, foot_bun, List.append_nil, List.nil_append, List.cons_append, List.nodup_cons, List.nodup_nil, List.mem_cons, List.not_mem_nil, List.mem_singleton, List.forall_mem_cons, not_or, not_false_eq_true, and_true, true_and, or_false, false_or, forall_eq_or_imp, forall_eq, implies_true, Nat.zero_add, Nat.reduceAdd, and_assoc, Prop11.cells] at cs
  have v1 := (H.out.view O.fr).facts
  try simp only [cellsQ, roomP, and_assoc, and_true, true_and, Nat.add_zero, Nat.zero_add, Nat.reduceAdd, factsP, cellsP, roomP, foots_cons, foots_nil, foots_append, foot_pt, ptb, ptb_mapA, foot_mapA, factsP_mapA, foot_bun, List.append_nil, List.nil_append, List.cons_append, List.nodup_cons, List.nodup_nil, List.mem_cons, List.not_mem_nil, List.mem_singleton, List.forall_mem_cons, not_or, not_false_eq_true, and_true, true_and, or_false, false_or, forall_eq_or_imp, forall_eq, implies_true, Nat.zero_add, Nat.reduceAdd, and_assoc, Prop11.cells] at v1
  go_wp2_with fail
  apply region_held_mem [] (by kernel_rfl)
  case O => repeat' (first | (with_reducible exact O) | (with_reducible apply Mem.drew) | (with_reducible apply Mem.drewN) | (with_reducible apply Mem.ext) | (with_reducible apply Mem.alloc) | (with_reducible apply Mem.setCell) | (with_reducible apply Mem.newMap (κ := intK) (vv := Value.bool)) | (simp only [ptb, ptb_upd, foots_cons, List.mem_cons, World.size_alloc, size_ext, World.size_setCell, true_or, or_true, eq_self_iff_true]))
  case' h =>
    intro wr1 O'
    (try clear O)
    have O := O'
    clear O'
    (first | simp only [sel, rst, List.cons_append, List.nil_append, World.size_alloc, size_ext, World.size_setCell, size_setMap, World.size_drew, size_drewN, upd, List.set_cons_zero, List.set_cons_succ, if_true, if_false, reduceIte, not_false_eq_true, ne_lt0, ne_lt1, ne_lt2, ne_lt3, ne_lt4, cs] at O | simp only [sel, rst, List.cons_append, List.nil_append, World.size_alloc, size_ext, World.size_setCell, size_setMap, World.size_drew, size_drewN, upd, List.set_cons_zero, List.set_cons_succ, if_true, if_false, reduceIte, not_false_eq_true, ne_lt0, ne_lt1, ne_lt2, ne_lt3, ne_lt4] at O | skip)
    (try clear cs)
    (try clear v1)
    (try clear v2)
    (try clear v3)
  refine takeH (i := 0) (v := ?v1_1) rfl (by kernel_rfl) (by kernel_rfl) (by kernel_rfl) (fun _ _ _ h => h) (by rfl) ?y1_1 (O.sel []) ?r1_1
  case y1_1 =>
    intro WW hSw
    (go_simp) <;> (with_reducible rfl)
  case' r1_1 =>
    try simp only [Act.put, List.setIfInBounds_toArray, List.set_cons_zero, List.set_cons_succ]
  refine takeH (i := 1) (v := ?v1_2) rfl (by kernel_rfl) (by kernel_rfl) (by kernel_rfl) (fun _ _ _ h => h) (by rfl) ?y1_2 (O.sel []) ?r1_2
  case y1_2 =>
    intro WW hSw
    (go_simp) <;> (with_reducible rfl)
  case' r1_2 =>
    try simp only [Act.put, List.setIfInBounds_toArray, List.set_cons_zero, List.set_cons_succ]
  refine takeH (i := 2) (v := ?v1_3) rfl (by kernel_rfl) (by kernel_rfl) (by kernel_rfl) (fun _ _ _ h => h) (by rfl) ?y1_3 (O.sel []) ?r1_3
  case y1_3 =>
    intro WW hSw
    (go_simp) <;> (with_reducible rfl)
  case' r1_3 =>
    try simp only [Act.put, List.setIfInBounds_toArray, List.set_cons_zero, List.set_cons_succ]
  refine takeH (i := 3) (v := ?v1_4) rfl (by kernel_rfl) (by kernel_rfl) (by kernel_rfl) (fun _ _ _ h => h) (by rfl) ?y1_4 (O.sel []) ?r1_4
  case y1_4 =>
    intro WW hSw
    replace hSw : Mem _ _ WW _ := hSw
    have cs := hSw.facts
    simp only [sel, factsP, cellsP, roomP, foots_cons, foots_nil, foots_append, foot_pt, ptb, ptb_mapA, foot_mapA, factsP_mapA, foot_bun, List.append_nil, List.nil_append, List.cons_append, List.nodup_cons, List.nodup_nil, List.mem_cons, List.not_mem_nil, List.mem_singleton, List.forall_mem_cons, not_or, not_false_eq_true, and_true, true_and, or_false, false_or, forall_eq_or_imp, forall_eq, implies_true, Nat.zero_add, Nat.reduceAdd, and_assoc, Prop11.cells] at cs
    have v1 := (H.out.view hSw.fr).facts
    try simp only [cellsQ, roomP, and_assoc, and_true, true_and, Nat.add_zero, Nat.zero_add, Nat.reduceAdd, factsP, cellsP, roomP, foots_cons, foots_nil, foots_append, foot_pt, ptb, ptb_mapA, foot_mapA, factsP_mapA, foot_bun, List.append_nil, List.nil_append, List.cons_append, List.nodup_cons, List.nodup_nil, List.mem_cons, List.not_mem_nil, List.mem_singleton, List.forall_mem_cons, not_or, not_false_eq_true, and_true, true_and, or_false, false_or, forall_eq_or_imp, forall_eq, implies_true, Nat.zero_add, Nat.reduceAdd, and_assoc, Prop11.cells] at v1
    (go_simp) <;> (with_reducible rfl)
  case' r1_4 =>
    try simp only [Act.put, List.setIfInBounds_toArray, List.set_cons_zero, List.set_cons_succ]
  refine takeH (i := 4) (v := ?v1_5) rfl (by kernel_rfl) (by kernel_rfl) (by kernel_rfl) (fun _ _ _ h => h) (by rfl) ?y1_5 (O.sel []) ?r1_5
  case y1_5 =>
    intro WW hSw
    (go_simp) <;> (with_reducible rfl)
  case' r1_5 =>
    try simp only [Act.put, List.setIfInBounds_toArray, List.set_cons_zero, List.set_cons_succ]
  refine takeH (i := 5) (v := ?v1_6) rfl (by kernel_rfl) (by kernel_rfl) (by kernel_rfl) (fun _ _ _ h => h) (by rfl) ?y1_6 (O.sel []) ?r1_6
  case y1_6 =>
    intro WW hSw
    (go_simp) <;> (with_reducible rfl)
  case' r1_6 =>
    try simp only [Act.put, List.setIfInBounds_toArray, List.set_cons_zero, List.set_cons_succ]
  refine takeH (i := 6) (v := ?v1_7) rfl (by kernel_rfl) (by kernel_rfl) (by kernel_rfl) (fun _ _ _ h => h) (by rfl) ?y1_7 (O.sel []) ?r1_7
  case y1_7 =>
    intro WW hSw
    (go_simp) <;> (with_reducible rfl)
  case' r1_7 =>
    try simp only [Act.put, List.setIfInBounds_toArray, List.set_cons_zero, List.set_cons_succ]
  refine takeH (i := 7) (v := ?v1_8) rfl (by kernel_rfl) (by kernel_rfl) (by kernel_rfl) (fun _ _ _ h => h) (by rfl) ?y1_8 (O.sel []) ?r1_8
  case y1_8 =>
    intro WW hSw
    (go_simp) <;> (with_reducible rfl)
  case' r1_8 =>
    try simp only [Act.put, List.setIfInBounds_toArray, List.set_cons_zero, List.set_cons_succ]
  refine takeH (i := 8) (v := ?v1_9) rfl (by kernel_rfl) (by kernel_rfl) (by kernel_rfl) (fun _ _ _ h => h) (by rfl) ?y1_9 (O.sel []) ?r1_9
  case y1_9 =>
    intro WW hSw
    replace hSw : Mem _ _ WW _ := hSw
    have cs := hSw.facts
    simp only [sel, factsP, cellsP, roomP, foots_cons, foots_nil, foots_append, foot_pt, ptb, ptb_mapA, foot_mapA, factsP_mapA, foot_bun, List.append_nil, List.nil_append, List.cons_append, List.nodup_cons, List.nodup_nil, List.mem_cons, List.not_mem_nil, List.mem_singleton, List.forall_mem_cons, not_or, not_false_eq_true, and_true, true_and, or_false, false_or, forall_eq_or_imp, forall_eq, implies_true, Nat.zero_add, Nat.reduceAdd, and_assoc, Prop11.cells] at cs
    have v1 := (H.out.view hSw.fr).facts
    try simp only [cellsQ, roomP, and_assoc, and_true, true_and, Nat.add_zero, Nat.zero_add, Nat.reduceAdd, factsP, cellsP, roomP, foots_cons, foots_nil, foots_append, foot_pt, ptb, ptb_mapA, foot_mapA, factsP_mapA, foot_bun, List.append_nil, List.nil_append, List.cons_append, List.nodup_cons, List.nodup_nil, List.mem_cons, List.not_mem_nil, List.mem_singleton, List.forall_mem_cons, not_or, not_false_eq_true, and_true, true_and, or_false, false_or, forall_eq_or_imp, forall_eq, implies_true, Nat.zero_add, Nat.reduceAdd, and_assoc, Prop11.cells] at v1
    (go_simp) <;> (with_reducible rfl)
  case' r1_9 =>
    try simp only [Act.put, List.setIfInBounds_toArray, List.set_cons_zero, List.set_cons_succ]
  refine takeH (i := 9) (v := ?v1_10) rfl (by kernel_rfl) (by kernel_rfl) (by kernel_rfl) (fun _ _ _ h => h) (by rfl) ?y1_10 (O.sel []) ?r1_10
  case y1_10 =>
    intro WW hSw
    (go_simp) <;> (with_reducible rfl)
  case' r1_10 =>
    try simp only [Act.put, List.setIfInBounds_toArray, List.set_cons_zero, List.set_cons_succ]
  refine wpAnyH_ready (rs := [10]) (by kernel_rfl) (by simp) ?_
  refine consH rfl (fun K hK => ?_) AllReadyH.nil
  have cs := O.facts
  simp only [factsP, cellsP, roomP, foots_cons, foots_nil, foots_append, foot_pt, ptb, ptb_mapA, foot_mapA, factsP_mapA, foot_bun, List.append_nil, List.nil_append, List.cons_append, List.nodup_cons, List.nodup_nil, List.mem_cons, List.not_mem_nil, List.mem_singleton, List.forall_mem_cons, not_or, not_false_eq_true, and_true, true_and, or_false, false_or, forall_eq_or_imp, forall_eq, implies_true, Nat.zero_add, Nat.reduceAdd, and_assoc, Prop11.cells] at cs
  have v1 := (H.out.view O.fr).facts
  try simp only [cellsQ, roomP, and_assoc, and_true, true_and, Nat.add_zero, Nat.zero_add, Nat.reduceAdd, factsP, cellsP, roomP, foots_cons, foots_nil, foots_append, foot_pt, ptb, ptb_mapA, foot_mapA, factsP_mapA, foot_bun, List.append_nil, List.nil_append, List.cons_append, List.nodup_cons, List.nodup_nil, List.mem_cons, List.not_mem_nil, List.mem_singleton, List.forall_mem_cons, not_or, not_false_eq_true, and_true, true_and, or_false, false_or, forall_eq_or_imp, forall_eq, implies_true, Nat.zero_add, Nat.reduceAdd, and_assoc, Prop11.cells] at v1
  go_simp
  apply Mem.atK
  case h => repeat' (first | (with_reducible exact O) | (with_reducible apply Mem.drew) | (with_reducible apply Mem.drewN) | (with_reducible apply Mem.ext) | (with_reducible apply Mem.alloc) | (with_reducible apply Mem.setCell) | (with_reducible apply Mem.newMap (κ := intK) (vv := Value.bool)) | (simp only [ptb, ptb_upd, foots_cons, List.mem_cons, World.size_alloc, size_ext, World.size_setCell, true_or, or_true, eq_self_iff_true]))
  intro w1_11 O'
  (try clear O)
  have O := O'
  clear O'
  (first | simp only [sel, rst, List.cons_append, List.nil_append, World.size_alloc, size_ext, World.size_setCell, size_setMap, World.size_drew, size_drewN, upd, List.set_cons_zero, List.set_cons_succ, if_true, if_false, reduceIte, not_false_eq_true, ne_lt0, ne_lt1, ne_lt2, ne_lt3, ne_lt4, cs] at O | simp only [sel, rst, List.cons_append, List.nil_append, World.size_alloc, size_ext, World.size_setCell, size_setMap, World.size_drew, size_drewN, upd, List.set_cons_zero, List.set_cons_succ, if_true, if_false, reduceIte, not_false_eq_true, ne_lt0, ne_lt1, ne_lt2, ne_lt3, ne_lt4] at O | skip)
  (try clear cs)
  (try clear v1)
  (try clear v2)
  (try clear v3)
  refine hK.out _ _ (O.sel []) (fun _ => ?_)
  clear hK K
  refine takeH (i := 11) (v := ?v1_12) rfl (by kernel_rfl) (by kernel_rfl) (by kernel_rfl) (fun _ _ _ h => h) (by rfl) ?y1_12 (O.sel []) ?r1_12
  case y1_12 =>
    intro WW hSw
    (go_simp) <;> (with_reducible rfl)
  case' r1_12 =>
    try simp only [Act.put, List.setIfInBounds_toArray, List.set_cons_zero, List.set_cons_succ]
  refine wpAnyH_done (by kernel_rfl) ?_ _
  have cs := O.facts
  simp only [factsP, cellsP, roomP, foots_cons, foots_nil, foots_append, foot_pt, ptb, ptb_mapA, foot_mapA, factsP_mapA, foot_bun, List.append_nil, List.nil_append, List.cons_append, List.nodup_cons, List.nodup_nil, List.mem_cons, List.not_mem_nil, List.mem_singleton, List.forall_mem_cons, not_or, not_false_eq_true, and_true, true_and, or_false, false_or, forall_eq_or_imp, forall_eq, implies_true, Nat.zero_add, Nat.reduceAdd, and_assoc, Prop11.cells] at cs
  have v1 := (H.out.view O.fr).facts
  try simp only [cellsQ, roomP, and_assoc, and_true, true_and, Nat.add_zero, Nat.zero_add, Nat.reduceAdd, factsP, cellsP, roomP, foots_cons, foots_nil, foots_append, foot_pt, ptb, ptb_mapA, foot_mapA, factsP_mapA, foot_bun, List.append_nil, List.nil_append, List.cons_append, List.nodup_cons, List.nodup_nil, List.mem_cons, List.not_mem_nil, List.mem_singleton, List.forall_mem_cons, not_or, not_false_eq_true, and_true, true_and, or_false, false_or, forall_eq_or_imp, forall_eq, implies_true, Nat.zero_add, Nat.reduceAdd, and_assoc, Prop11.cells] at v1
  go_wp2_with fail
  refine bodyPost_ret (v := .tuple #[.agg #[.int .u32 pr, .int .u8 pn], .bool (decide (0 < pr))]) (by simp [results, Try.results21, go_sem, cs]) rfl ⟨rfl, O.fr0⟩
end Go.Proofs.Ytkhpikjmhamppaa
