/- WALKS: a detector (New, Peers, Wait, Watch, Beat, Suspects). -/
import Derived.Test.YtobiodbdnpcanaaSort09
import Derived.Test.YtobiodbdnpcanaaDetS09
set_option linter.unusedVariables false
set_option linter.unusedSimpArgs false
namespace Go.Proofs.Ytobiodbdnpcanaa
open Go.RowKit Go.Tk
def noPeer : Peer := ⟨0, 0, 0, false⟩
theorem zeroPeer (w : World) : (zeroValue 59).run Try.prog w = .ok noPeer.val w := by kernel_rfl
def detL (db mb : Nat) (g : Int) (m : List (Int × Peer)) : List Asn := [.pt db [.int .i64 g, .map (some mb)] 56, mapA intK Peer.val mb m]
set_option maxRecDepth 100000 in
set_option maxHeartbeats 4000000 in
theorem d_New (g : Int) (w : World) (h : 1 ≤ g ∧ g ≤ 4096) : Calls Try.prog 8 #[.int .i64 g] w (fun e w' => e = .returned (.tuple #[.pointer (some ⟨w.heap.size + 1, 0, none⟩), .int .i64 0]) ∧ Mem w [] w' (detL (w.heap.size + 1) w.heap.size g [])) := by
  obtain ⟨h1, h2⟩ := h
  have O : Mem w [] w [] := Mem.begin
  have hmm := @run_makeMap Try.prog
  go_enter Try.func8, Try.ntmps8
  go_wp2
  go_ret2
  refine ⟨rfl, ?_⟩
  have O2 := (O.newMap (κ := intK) (vv := Peer.val)).alloc [.int .i64 g, .map (some w.heap.size)] 56
  rw [World.size_alloc] at O2
  exact O2
theorem okInt {f : Int} (h : -9223372036854775808 ≤ f ∧ f ≤ 9223372036854775807) : intK.ok f := by
  show (Lit.int .i64 f).wf = true
  simp [Lit.wf, IntKind.min, IntKind.max, IntKind.signed, IntKind.bits]
  omega
theorem look_peer {W : World} {mb : Nat} {m : List (Int × Peer)} (h : MapAt intK Peer.val W mb m) {f : Int} (hk : intK.ok f) : (Instr.lookup 54 (.map (some mb)) (.int .i64 f) true).run Try.prog W = .ok (.tuple #[((mget m f).getD noPeer).val, .bool (mget m f).isSome]) W := by
  have := h.lookup Try.underlying54 zeroPeer hk true
  simp only [if_true] at this
  rw [show intK.kv f = .int .i64 f from rfl] at this
  rw [this]
  cases mget m f <;> rfl
theorem look_peer1 {W : World} {mb : Nat} {m : List (Int × Peer)} (h : MapAt intK Peer.val W mb m) {f : Int} (hk : intK.ok f) : (Instr.lookup 54 (.map (some mb)) (.int .i64 f) false).run Try.prog W = .ok ((mget m f).getD noPeer).val W := by
  have := h.lookup Try.underlying54 zeroPeer hk false
  simp only [Bool.false_eq_true, if_false] at this
  rw [show intK.kv f = .int .i64 f from rfl] at this
  rw [this]
  cases mget m f <;> rfl
set_option maxRecDepth 100000 in
set_option maxHeartbeats 4000000 in
theorem d_Peers (w : World) (db mb : Nat) (g : Int) (m : List (Int × Peer)) (h : Pre w (detL db mb g m)) (hsz : m.length ≤ 1000000) :
    Calls Try.prog 17 #[.pointer (some ⟨db, 0, none⟩)] w (fun e w' => ∃ (A : Option Addr) (c : Nat), e = .returned (.slice A ((keysOf m).mergeSort leB).length c) ∧ Mem w [] w' [listA 3 1 intCells A c ((keysOf m).mergeSort leB)]) := by
  have O : Mem w [] w [] := Mem.begin
  have H := Lib.hid h
  have HS := Lib.hid hsz
  clear h hsz
  simp only [detL] at H
  skip
  go_enter Try.func17, Try.ntmps17
  have cs := O.facts
  simp only [factsP, cellsP, roomP, foots_cons, foots_nil, foots_append, foot_pt, ptb, ptb_mapA, foot_mapA, factsP_mapA, foot_bun, List.append_nil, List.nil_append, List.cons_append, List.nodup_cons, List.nodup_nil, List.mem_cons, List.not_mem_nil, List.mem_singleton, List.forall_mem_cons, not_or, not_false_eq_true, and_true, true_and, or_false, false_or, forall_eq_or_imp, forall_eq, implies_true, Nat.zero_add, Nat.reduceAdd, and_assoc, factsP_mapA, ptb_mapA, ptb_listA, factsP_listA, Nat.mul_one] at cs
  have v1 := (H.out.view O.fr).facts
  try simp only [cellsQ, roomP, and_assoc, and_true, true_and, Nat.add_zero, Nat.zero_add, Nat.reduceAdd, factsP, cellsP, roomP, foots_cons, foots_nil, foots_append, foot_pt, ptb, ptb_mapA, foot_mapA, factsP_mapA, foot_bun, List.append_nil, List.nil_append, List.cons_append, List.nodup_cons, List.nodup_nil, List.mem_cons, List.not_mem_nil, List.mem_singleton, List.forall_mem_cons, not_or, not_false_eq_true, and_true, true_and, or_false, false_or, forall_eq_or_imp, forall_eq, implies_true, Nat.zero_add, Nat.reduceAdd, and_assoc, factsP_mapA, ptb_mapA, ptb_listA, factsP_listA, Nat.mul_one] at v1
  go_wp2_with fail
  first | apply Mem.atCall | apply Mem.atCode | apply Mem.atList
  case h => repeat' (first | (with_reducible exact O) | (with_reducible apply Mem.drew) | (with_reducible apply Mem.drewN) | (with_reducible apply Mem.ext) | (with_reducible apply Mem.alloc) | (with_reducible apply Mem.setCell) | (with_reducible apply Mem.newMap (κ := intK) (vv := Peer.val)) | (simp only [ptb, ptb_upd, foots_cons, List.mem_cons, World.size_alloc, size_ext, World.size_setCell, true_or, or_true, eq_self_iff_true, ptb_mapA, ptb_listA]))
  case' k =>
    intro w1 O'
    (try clear O)
    have O := O'
    clear O'
    (first | simp only [sel, rst, List.cons_append, List.nil_append, World.size_alloc, size_ext, World.size_setCell, size_setMap, World.size_drew, size_drewN, upd, List.set_cons_zero, List.set_cons_succ, if_true, if_false, reduceIte, not_false_eq_true, ne_lt0, ne_lt1, ne_lt2, ne_lt3, ne_lt4, cs] at O | simp only [sel, rst, List.cons_append, List.nil_append, World.size_alloc, size_ext, World.size_setCell, size_setMap, World.size_drew, size_drewN, upd, List.set_cons_zero, List.set_cons_succ, if_true, if_false, reduceIte, not_false_eq_true, ne_lt0, ne_lt1, ne_lt2, ne_lt3, ne_lt4] at O | skip)
    (try clear cs)
    (try clear v1)
    (try clear v2)
    (try clear v3)
  refine (c_Keys _ _).mono ?_
  rintro e w2 ⟨rfl, rfl⟩
  go_wp2_with fail
  have hM : MapAt intK Peer.val w1 mb m := Mem.map (κ := intK) (vv := Peer.val) (H.out.view O.fr) (by simp)
  refine (c_Sorted w1 mb m hM HS.out).mono ?_
  rintro e w3 ⟨A, c, rfl, o⟩
  have O2 := (O.alloc [.map (some mb)] 54).callp [] o
  go_wp2_with fail
  go_ret
  exact ⟨A, c, by simp, O2.sel [true, false]⟩
set_option maxRecDepth 100000 in
set_option maxHeartbeats 4000000 in
theorem d_Wait (w : World) (db mb : Nat) (g : Int) (m : List (Int × Peer)) (h : Pre w (detL db mb g m)) (id : Int) (hid : intK.ok id) (p : Peer) (hp : mget m id = some p) (hok : p.ok) :
    Calls Try.prog 12 #[.pointer (some ⟨db, 0, none⟩), .int .i64 id] w (fun e w' => e = .returned (.tuple #[.int .i64 (waitP p), .int .i64 0]) ∧ Mem w [] w' []) := by
  have O : Mem w [] w [] := Mem.begin
  have LK := Lib.hid (fun W (hW : Fr [] w W) => by
    have := look_peer (Mem.map (κ := intK) (vv := Peer.val) (Pre.view h hW) (b := mb) (m := m) (by simp [detL])) hid
    rw [hp] at this
    simp only [Option.getD_some, Option.isSome_some] at this
    exact this)
  have CW := Lib.hid (fun W => d_wait p hok W)
  have H := Lib.hid h
  clear h hp hid hok
  generalize waitP p = x at CW ⊢
  obtain ⟨a, b, c, d⟩ := p
  simp only [detL] at H
  simp only [Peer.val] at LK CW
  skip
  go_enter Try.func12, Try.ntmps12
  have cs := O.facts
  simp only [factsP, cellsP, roomP, foots_cons, foots_nil, foots_append, foot_pt, ptb, ptb_mapA, foot_mapA, factsP_mapA, foot_bun, List.append_nil, List.nil_append, List.cons_append, List.nodup_cons, List.nodup_nil, List.mem_cons, List.not_mem_nil, List.mem_singleton, List.forall_mem_cons, not_or, not_false_eq_true, and_true, true_and, or_false, false_or, forall_eq_or_imp, forall_eq, implies_true, Nat.zero_add, Nat.reduceAdd, and_assoc, factsP_mapA, ptb_mapA, ptb_listA, factsP_listA, Nat.mul_one] at cs
  have v1 := (H.out.view O.fr).facts
  try simp only [cellsQ, roomP, and_assoc, and_true, true_and, Nat.add_zero, Nat.zero_add, Nat.reduceAdd, factsP, cellsP, roomP, foots_cons, foots_nil, foots_append, foot_pt, ptb, ptb_mapA, foot_mapA, factsP_mapA, foot_bun, List.append_nil, List.nil_append, List.cons_append, List.nodup_cons, List.nodup_nil, List.mem_cons, List.not_mem_nil, List.mem_singleton, List.forall_mem_cons, not_or, not_false_eq_true, and_true, true_and, or_false, false_or, forall_eq_or_imp, forall_eq, implies_true, Nat.zero_add, Nat.reduceAdd, and_assoc, factsP_mapA, ptb_mapA, ptb_listA, factsP_listA, Nat.mul_one] at v1
  have v2 := (LK.out _ O.fr)
  try simp only [cellsQ, roomP, and_assoc, and_true, true_and, Nat.add_zero, Nat.zero_add, Nat.reduceAdd, factsP, cellsP, roomP, foots_cons, foots_nil, foots_append, foot_pt, ptb, ptb_mapA, foot_mapA, factsP_mapA, foot_bun, List.append_nil, List.nil_append, List.cons_append, List.nodup_cons, List.nodup_nil, List.mem_cons, List.not_mem_nil, List.mem_singleton, List.forall_mem_cons, not_or, not_false_eq_true, and_true, true_and, or_false, false_or, forall_eq_or_imp, forall_eq, implies_true, Nat.zero_add, Nat.reduceAdd, and_assoc, factsP_mapA, ptb_mapA, ptb_listA, factsP_listA, Nat.mul_one] at v2
  go_upto_region 3 with fail
  first | apply Mem.atCall | apply Mem.atCode | apply Mem.atList
  case h => repeat' (first | (with_reducible exact O) | (with_reducible apply Mem.drew) | (with_reducible apply Mem.drewN) | (with_reducible apply Mem.ext) | (with_reducible apply Mem.alloc) | (with_reducible apply Mem.setCell) | (with_reducible apply Mem.newMap (κ := intK) (vv := Peer.val)) | (simp only [ptb, ptb_upd, foots_cons, List.mem_cons, World.size_alloc, size_ext, World.size_setCell, true_or, or_true, eq_self_iff_true, ptb_mapA, ptb_listA]))
  case' k =>
    intro w1 O'
    (try clear O)
    have O := O'
    clear O'
    (first | simp only [sel, rst, List.cons_append, List.nil_append, World.size_alloc, size_ext, World.size_setCell, size_setMap, World.size_drew, size_drewN, upd, List.set_cons_zero, List.set_cons_succ, if_true, if_false, reduceIte, not_false_eq_true, ne_lt0, ne_lt1, ne_lt2, ne_lt3, ne_lt4, cs] at O | simp only [sel, rst, List.cons_append, List.nil_append, World.size_alloc, size_ext, World.size_setCell, size_setMap, World.size_drew, size_drewN, upd, List.set_cons_zero, List.set_cons_succ, if_true, if_false, reduceIte, not_false_eq_true, ne_lt0, ne_lt1, ne_lt2, ne_lt3, ne_lt4] at O | skip)
    (try clear cs)
    (try clear v1)
    (try clear v2)
    (try clear v3)
  skip
  have cs := O.facts
  simp only [factsP, cellsP, roomP, foots_cons, foots_nil, foots_append, foot_pt, ptb, ptb_mapA, foot_mapA, factsP_mapA, foot_bun, List.append_nil, List.nil_append, List.cons_append, List.nodup_cons, List.nodup_nil, List.mem_cons, List.not_mem_nil, List.mem_singleton, List.forall_mem_cons, not_or, not_false_eq_true, and_true, true_and, or_false, false_or, forall_eq_or_imp, forall_eq, implies_true, Nat.zero_add, Nat.reduceAdd, and_assoc, factsP_mapA, ptb_mapA, ptb_listA, factsP_listA, Nat.mul_one] at cs
  have v1 := (H.out.view O.fr).facts
  try simp only [cellsQ, roomP, and_assoc, and_true, true_and, Nat.add_zero, Nat.zero_add, Nat.reduceAdd, factsP, cellsP, roomP, foots_cons, foots_nil, foots_append, foot_pt, ptb, ptb_mapA, foot_mapA, factsP_mapA, foot_bun, List.append_nil, List.nil_append, List.cons_append, List.nodup_cons, List.nodup_nil, List.mem_cons, List.not_mem_nil, List.mem_singleton, List.forall_mem_cons, not_or, not_false_eq_true, and_true, true_and, or_false, false_or, forall_eq_or_imp, forall_eq, implies_true, Nat.zero_add, Nat.reduceAdd, and_assoc, factsP_mapA, ptb_mapA, ptb_listA, factsP_listA, Nat.mul_one] at v1
  have v2 := (LK.out _ O.fr)
  try simp only [cellsQ, roomP, and_assoc, and_true, true_and, Nat.add_zero, Nat.zero_add, Nat.reduceAdd, factsP, cellsP, roomP, foots_cons, foots_nil, foots_append, foot_pt, ptb, ptb_mapA, foot_mapA, factsP_mapA, foot_bun, List.append_nil, List.nil_append, List.cons_append, List.nodup_cons, List.nodup_nil, List.mem_cons, List.not_mem_nil, List.mem_singleton, List.forall_mem_cons, not_or, not_false_eq_true, and_true, true_and, or_false, false_or, forall_eq_or_imp, forall_eq, implies_true, Nat.zero_add, Nat.reduceAdd, and_assoc, factsP_mapA, ptb_mapA, ptb_listA, factsP_listA, Nat.mul_one] at v2
  go_wp2_with fail
  first | apply Mem.atCall | apply Mem.atCode | apply Mem.atList
  case h => repeat' (first | (with_reducible exact O) | (with_reducible apply Mem.drew) | (with_reducible apply Mem.drewN) | (with_reducible apply Mem.ext) | (with_reducible apply Mem.alloc) | (with_reducible apply Mem.setCell) | (with_reducible apply Mem.newMap (κ := intK) (vv := Peer.val)) | (simp only [ptb, ptb_upd, foots_cons, List.mem_cons, World.size_alloc, size_ext, World.size_setCell, true_or, or_true, eq_self_iff_true, ptb_mapA, ptb_listA]))
  case' k =>
    intro w2 O'
    (try clear O)
    have O := O'
    clear O'
    (first | simp only [sel, rst, List.cons_append, List.nil_append, World.size_alloc, size_ext, World.size_setCell, size_setMap, World.size_drew, size_drewN, upd, List.set_cons_zero, List.set_cons_succ, if_true, if_false, reduceIte, not_false_eq_true, ne_lt0, ne_lt1, ne_lt2, ne_lt3, ne_lt4, cs] at O | simp only [sel, rst, List.cons_append, List.nil_append, World.size_alloc, size_ext, World.size_setCell, size_setMap, World.size_drew, size_drewN, upd, List.set_cons_zero, List.set_cons_succ, if_true, if_false, reduceIte, not_false_eq_true, ne_lt0, ne_lt1, ne_lt2, ne_lt3, ne_lt4] at O | skip)
    (try clear cs)
    (try clear v1)
    (try clear v2)
    (try clear v3)
  refine (CW.out _).mono ?_
  rintro e w3 ⟨rfl, o⟩
  replace O := O.callp [] o
  clear o
  simp only [put, List.cons_append, List.nil_append] at O
  have cs := O.facts
  simp only [factsP, cellsP, roomP, foots_cons, foots_nil, foots_append, foot_pt, ptb, ptb_mapA, foot_mapA, factsP_mapA, foot_bun, List.append_nil, List.nil_append, List.cons_append, List.nodup_cons, List.nodup_nil, List.mem_cons, List.not_mem_nil, List.mem_singleton, List.forall_mem_cons, not_or, not_false_eq_true, and_true, true_and, or_false, false_or, forall_eq_or_imp, forall_eq, implies_true, Nat.zero_add, Nat.reduceAdd, and_assoc, factsP_mapA, ptb_mapA, ptb_listA, factsP_listA, Nat.mul_one] at cs
  have v1 := (H.out.view O.fr).facts
  try simp only [cellsQ, roomP, and_assoc, and_true, true_and, Nat.add_zero, Nat.zero_add, Nat.reduceAdd, factsP, cellsP, roomP, foots_cons, foots_nil, foots_append, foot_pt, ptb, ptb_mapA, foot_mapA, factsP_mapA, foot_bun, List.append_nil, List.nil_append, List.cons_append, List.nodup_cons, List.nodup_nil, List.mem_cons, List.not_mem_nil, List.mem_singleton, List.forall_mem_cons, not_or, not_false_eq_true, and_true, true_and, or_false, false_or, forall_eq_or_imp, forall_eq, implies_true, Nat.zero_add, Nat.reduceAdd, and_assoc, factsP_mapA, ptb_mapA, ptb_listA, factsP_listA, Nat.mul_one] at v1
  have v2 := (LK.out _ O.fr)
  try simp only [cellsQ, roomP, and_assoc, and_true, true_and, Nat.add_zero, Nat.zero_add, Nat.reduceAdd, factsP, cellsP, roomP, foots_cons, foots_nil, foots_append, foot_pt, ptb, ptb_mapA, foot_mapA, factsP_mapA, foot_bun, List.append_nil, List.nil_append, List.cons_append, List.nodup_cons, List.nodup_nil, List.mem_cons, List.not_mem_nil, List.mem_singleton, List.forall_mem_cons, not_or, not_false_eq_true, and_true, true_and, or_false, false_or, forall_eq_or_imp, forall_eq, implies_true, Nat.zero_add, Nat.reduceAdd, and_assoc, factsP_mapA, ptb_mapA, ptb_listA, factsP_listA, Nat.mul_one] at v2
  go_wp2_with fail
  go_ret2
  exact ⟨rfl, O.fr0⟩
end Go.Proofs.Ytobiodbdnpcanaa
