/- WALKS: the document's detector: Time, Silent, Wait, Bad. -/
import Derived.Test.YtobiodbdnpcanaaDetC09
set_option linter.unusedVariables false
set_option linter.unusedSimpArgs false
namespace Go.Proofs.Ytobiodbdnpcanaa
open Go.RowKit Go.Tk
/-- a node of the document's: its number, and what is known -/
def refVal (id : Int) (p : Peer) : Value := .agg #[.int .i64 id, .int .i64 p.last, .int .i64 p.mean, .int .i64 p.margin, .bool p.told]
def refCells (q : Int × Peer) : List Value := [.int .i64 q.1, .int .i64 q.2.last, .int .i64 q.2.mean, .int .i64 q.2.margin, .bool q.2.told]
set_option maxRecDepth 100000 in
theorem r_Time (now : Int) (w : World) : Calls Try.prog 32 #[.int .i64 now] w (fun e w' => e = .returned (.bool (timeOk now)) ∧ Mem w [] w' []) := by
  have O : Mem w [] w [] := Mem.begin
  by_cases h : 0 ≤ now
  · by_cases h2 : now ≤ 1099511627776
    · have ht : timeOk now = true := by simp [timeOk, h, h2]
      rw [ht]
      clear ht
      go_enter Try.func32, Try.ntmps32
      go_wp2
      go_ret
      exact ⟨rfl, O⟩
    · have ht : timeOk now = false := by simp [timeOk, h2]
      rw [ht]
      clear ht
      go_enter Try.func32, Try.ntmps32
      go_wp2
      go_ret
      exact ⟨rfl, O⟩
  · have ht : timeOk now = false := by simp [timeOk, h]
    rw [ht]
    clear ht
    have h3 : decide (0 ≤ now) = false := by simp [h]
    go_enter Try.func32, Try.ntmps32
    go_wp2
    go_ret
    exact ⟨rfl, O⟩
set_option maxRecDepth 100000 in
set_option maxHeartbeats 4000000 in
theorem r_Wait (id : Int) (p : Peer) (hp : p.ok) (w : World) : Calls Try.prog 29 #[refVal id p] w (fun e w' => e = .returned (.int .i64 (waitP p)) ∧ Mem w [] w' []) := by
  have O : Mem w [] w [] := Mem.begin
  obtain ⟨v, hv⟩ : ∃ v, v = waitP p := ⟨_, rfl⟩
  rw [← hv]
  have hq : p.mean.tdiv 8 = p.mean / 8 := by rw [Int.tdiv_eq_ediv_of_nonneg hp.mean.1]
  have hw0 : IntKind.i64.wrap (p.mean / 8) = p.mean / 8 := by have := hp.mean; simp [IntKind.wrap, IntKind.signed, IntKind.bits]; omega
  obtain ⟨x, hx⟩ : ∃ x, p.mean / 8 + p.margin = x := ⟨_, rfl⟩
  have hw : IntKind.i64.wrap x = x := by have := hp.mean; have := hp.margin; simp [IntKind.wrap, IntKind.signed, IntKind.bits]; omega
  unfold waitP at hv
  rw [hx] at hv
  have HV := Lib.hid hv
  clear hv
  obtain ⟨a, b, c, d⟩ := p
  have HP := Lib.hid hp
  clear hp
  simp only at hw0 hq hx
  simp only [refVal]
  by_cases h1 : x < 4
  · have hv := HV.out
    rw [if_pos h1] at hv
    subst hv
    clear HV
    go_enter Try.func29, Try.ntmps29
    have cs := O.facts
    simp only [factsP, cellsP, roomP, foots_cons, foots_nil, foots_append, foot_pt, ptb, ptb_mapA, foot_mapA, factsP_mapA, foot_bun, List.append_nil, List.nil_append, List.cons_append, List.nodup_cons, List.nodup_nil, List.mem_cons, List.not_mem_nil, List.mem_singleton, List.forall_mem_cons, not_or, not_false_eq_true, and_true, true_and, or_false, false_or, forall_eq_or_imp, forall_eq, implies_true, Nat.zero_add, Nat.reduceAdd, and_assoc, ptb_listA, factsP_listA, Nat.mul_one] at cs
    go_wp2_with fail
    go_ret
    exact ⟨rfl, (O.alloc (refCells (id, ⟨a, b, c, d⟩)) 66).fr0⟩
  · by_cases h2 : 4096 < x
    · have hv := HV.out
      rw [if_neg h1, if_pos h2] at hv
      subst hv
      clear HV
      go_enter Try.func29, Try.ntmps29
      have cs := O.facts
      simp only [factsP, cellsP, roomP, foots_cons, foots_nil, foots_append, foot_pt, ptb, ptb_mapA, foot_mapA, factsP_mapA, foot_bun, List.append_nil, List.nil_append, List.cons_append, List.nodup_cons, List.nodup_nil, List.mem_cons, List.not_mem_nil, List.mem_singleton, List.forall_mem_cons, not_or, not_false_eq_true, and_true, true_and, or_false, false_or, forall_eq_or_imp, forall_eq, implies_true, Nat.zero_add, Nat.reduceAdd, and_assoc, ptb_listA, factsP_listA, Nat.mul_one] at cs
      go_wp2_with fail
      go_ret
      exact ⟨rfl, (O.alloc (refCells (id, ⟨a, b, c, d⟩)) 66).fr0⟩
    · have hv := HV.out
      rw [if_neg h1, if_neg h2] at hv
      subst hv
      clear HV
      go_enter Try.func29, Try.ntmps29
      have cs := O.facts
      simp only [factsP, cellsP, roomP, foots_cons, foots_nil, foots_append, foot_pt, ptb, ptb_mapA, foot_mapA, factsP_mapA, foot_bun, List.append_nil, List.nil_append, List.cons_append, List.nodup_cons, List.nodup_nil, List.mem_cons, List.not_mem_nil, List.mem_singleton, List.forall_mem_cons, not_or, not_false_eq_true, and_true, true_and, or_false, false_or, forall_eq_or_imp, forall_eq, implies_true, Nat.zero_add, Nat.reduceAdd, and_assoc, ptb_listA, factsP_listA, Nat.mul_one] at cs
      go_wp2_with fail
      go_ret
      exact ⟨rfl, (O.alloc (refCells (id, ⟨a, b, c, d⟩)) 66).fr0⟩
set_option maxRecDepth 100000 in
set_option maxHeartbeats 4000000 in
theorem r_Silent (id : Int) (p : Peer) (hp : p.ok) (now : Int) (hm : 0 ≤ now) (hn : now ≤ 1099511627776) (w : World) : Calls Try.prog 34 #[refVal id p, .int .i64 now] w (fun e w' => e = .returned (.int .i64 (silentP p now)) ∧ Mem w [] w' []) := by
  have O : Mem w [] w [] := Mem.begin
  obtain ⟨v, hv⟩ : ∃ v, v = silentP p now := ⟨_, rfl⟩
  rw [← hv]
  have hw : IntKind.i64.wrap (now - p.last) = now - p.last := by have := hp.last; simp [IntKind.wrap, IntKind.signed, IntKind.bits]; omega
  unfold silentP at hv
  clear hm hn hp
  obtain ⟨a, b, c, d⟩ := p
  simp only at hw hv
  simp only [refVal]
  by_cases h1 : now < a
  · rw [if_pos h1] at hv
    subst hv
    go_enter Try.func34, Try.ntmps34
    have cs := O.facts
    simp only [factsP, cellsP, roomP, foots_cons, foots_nil, foots_append, foot_pt, ptb, ptb_mapA, foot_mapA, factsP_mapA, foot_bun, List.append_nil, List.nil_append, List.cons_append, List.nodup_cons, List.nodup_nil, List.mem_cons, List.not_mem_nil, List.mem_singleton, List.forall_mem_cons, not_or, not_false_eq_true, and_true, true_and, or_false, false_or, forall_eq_or_imp, forall_eq, implies_true, Nat.zero_add, Nat.reduceAdd, and_assoc, ptb_listA, factsP_listA, Nat.mul_one] at cs
    go_wp2_with fail
    go_ret
    exact ⟨rfl, (O.alloc (refCells (id, ⟨a, b, c, d⟩)) 66).fr0⟩
  · rw [if_neg h1] at hv
    subst hv
    go_enter Try.func34, Try.ntmps34
    have cs := O.facts
    simp only [factsP, cellsP, roomP, foots_cons, foots_nil, foots_append, foot_pt, ptb, ptb_mapA, foot_mapA, factsP_mapA, foot_bun, List.append_nil, List.nil_append, List.cons_append, List.nodup_cons, List.nodup_nil, List.mem_cons, List.not_mem_nil, List.mem_singleton, List.forall_mem_cons, not_or, not_false_eq_true, and_true, true_and, or_false, false_or, forall_eq_or_imp, forall_eq, implies_true, Nat.zero_add, Nat.reduceAdd, and_assoc, ptb_listA, factsP_listA, Nat.mul_one] at cs
    go_wp2_with fail
    go_ret
    exact ⟨rfl, (O.alloc (refCells (id, ⟨a, b, c, d⟩)) 66).fr0⟩
set_option maxRecDepth 100000 in
set_option maxHeartbeats 4000000 in
theorem r_Bad (id : Int) (p : Peer) (hp : p.ok) (now : Int) (hm : 0 ≤ now) (hn : now ≤ 1099511627776) (w : World) : Calls Try.prog 35 #[refVal id p, .int .i64 now] w (fun e w' => e = .returned (.bool (badP p now)) ∧ Mem w [] w' []) := by
  have O : Mem w [] w [] := Mem.begin
  have CS := Lib.hid (fun W => r_Silent id p hp now hm hn W)
  have CW := Lib.hid (fun W => r_Wait id p hp W)
  obtain ⟨v, hv⟩ : ∃ v, v = badP p now := ⟨_, rfl⟩
  rw [← hv]
  unfold badP at hv
  generalize silentP p now = s at CS hv
  generalize waitP p = x at CW hv
  clear hm hn hp
  obtain ⟨a, b, c, d⟩ := p
  simp only [refVal] at CS CW ⊢
  have HV := Lib.hid hv
  clear hv
  go_enter Try.func35, Try.ntmps35
  have cs := O.facts
  simp only [factsP, cellsP, roomP, foots_cons, foots_nil, foots_append, foot_pt, ptb, ptb_mapA, foot_mapA, factsP_mapA, foot_bun, List.append_nil, List.nil_append, List.cons_append, List.nodup_cons, List.nodup_nil, List.mem_cons, List.not_mem_nil, List.mem_singleton, List.forall_mem_cons, not_or, not_false_eq_true, and_true, true_and, or_false, false_or, forall_eq_or_imp, forall_eq, implies_true, Nat.zero_add, Nat.reduceAdd, and_assoc, ptb_listA, factsP_listA, Nat.mul_one] at cs
  go_upto_region 1 with fail
  first | apply Mem.atCall | apply Mem.atCode | apply Mem.atList
  case h => repeat' (first | (with_reducible exact O) | (with_reducible apply Mem.drew) | (with_reducible apply Mem.drewN) | (with_reducible apply Mem.ext) | (with_reducible apply Mem.alloc) | (with_reducible apply Mem.setCell) | (simp only [ptb, ptb_upd, foots_cons, List.mem_cons, World.size_alloc, size_ext, World.size_setCell, true_or, or_true, eq_self_iff_true, ptb_listA]))
  case' k =>
    intro w1 O'
    (try clear O)
    have O := O'
    clear O'
    (first | simp only [sel, rst, List.cons_append, List.nil_append, World.size_alloc, size_ext, World.size_setCell, size_setMap, World.size_drew, size_drewN, upd, List.set_cons_zero, List.set_cons_succ, if_true, if_false, reduceIte, not_false_eq_true, ne_lt0, ne_lt1, ne_lt2, ne_lt3, ne_lt4, cs] at O | simp only [sel, rst, List.cons_append, List.nil_append, World.size_alloc, size_ext, World.size_setCell, size_setMap, World.size_drew, size_drewN, upd, List.set_cons_zero, List.set_cons_succ, if_true, if_false, reduceIte, not_false_eq_true, ne_lt0, ne_lt1, ne_lt2, ne_lt3, ne_lt4] at O | skip)
    (try clear cs)
    (try clear v1)
    (try clear v2)
    (try clear v3)
  apply region_quiet_mem (by kernel_rfl) (by kernel_rfl)
  case O => repeat' (first | (with_reducible exact O) | (with_reducible apply Mem.drew) | (with_reducible apply Mem.drewN) | (with_reducible apply Mem.ext) | (with_reducible apply Mem.alloc) | (with_reducible apply Mem.setCell) | (simp only [ptb, ptb_upd, foots_cons, List.mem_cons, World.size_alloc, size_ext, World.size_setCell, true_or, or_true, eq_self_iff_true, ptb_listA]))
  case' h =>
    intro w2 O'
    (try clear O)
    have O := O'
    clear O'
    (first | simp only [sel, rst, List.cons_append, List.nil_append, World.size_alloc, size_ext, World.size_setCell, size_setMap, World.size_drew, size_drewN, upd, List.set_cons_zero, List.set_cons_succ, if_true, if_false, reduceIte, not_false_eq_true, ne_lt0, ne_lt1, ne_lt2, ne_lt3, ne_lt4, cs] at O | simp only [sel, rst, List.cons_append, List.nil_append, World.size_alloc, size_ext, World.size_setCell, size_setMap, World.size_drew, size_drewN, upd, List.set_cons_zero, List.set_cons_succ, if_true, if_false, reduceIte, not_false_eq_true, ne_lt0, ne_lt1, ne_lt2, ne_lt3, ne_lt4] at O | skip)
    (try clear cs)
    (try clear v1)
    (try clear v2)
    (try clear v3)
  have cs := O.facts
  simp only [factsP, cellsP, roomP, foots_cons, foots_nil, foots_append, foot_pt, ptb, ptb_mapA, foot_mapA, factsP_mapA, foot_bun, List.append_nil, List.nil_append, List.cons_append, List.nodup_cons, List.nodup_nil, List.mem_cons, List.not_mem_nil, List.mem_singleton, List.forall_mem_cons, not_or, not_false_eq_true, and_true, true_and, or_false, false_or, forall_eq_or_imp, forall_eq, implies_true, Nat.zero_add, Nat.reduceAdd, and_assoc, ptb_listA, factsP_listA, Nat.mul_one] at cs
  repeat (go_big_quiet_step ((first | (go_at_call 34; with_reducible exact quietMem (CS.out _)) | (go_at_call 29; with_reducible exact quietMem (CW.out _)))))
  refine wpQuiet_nil ?_
  intro w3 hq
  (try clear cs)
  (try clear v1)
  (try clear v2)
  (try clear v3)
  replace O := O.qext hq
  clear hq
  have cs := O.facts
  simp only [factsP, cellsP, roomP, foots_cons, foots_nil, foots_append, foot_pt, ptb, ptb_mapA, foot_mapA, factsP_mapA, foot_bun, List.append_nil, List.nil_append, List.cons_append, List.nodup_cons, List.nodup_nil, List.mem_cons, List.not_mem_nil, List.mem_singleton, List.forall_mem_cons, not_or, not_false_eq_true, and_true, true_and, or_false, false_or, forall_eq_or_imp, forall_eq, implies_true, Nat.zero_add, Nat.reduceAdd, and_assoc, ptb_listA, factsP_listA, Nat.mul_one] at cs
  go_wp2_with fail
  go_ret
  exact ⟨by simp [HV.out], O.fr0⟩
end Go.Proofs.Ytobiodbdnpcanaa
