/- WALKS: what DetectPlays needs beside: a detector's Beat and Wait at any time, New at any guess; two lists compared. -/
import Derived.Test.YtobiodbdnpcanaaRefS09
set_option linter.unusedVariables false
set_option linter.unusedSimpArgs false
namespace Go.Proofs.Ytobiodbdnpcanaa
open Go.RowKit Go.Tk
def beat9 (m : List (Int × Peer)) (id now : Int) : Int × List (Int × Peer) := match mget m id with
  | none => (92, m)
  | some p => if timeOk now = true then (0, mset m id (beatP p now)) else (1, m)
def leave9 (m : List (Int × Peer)) (id : Int) : Int × List (Int × Peer) := match mget m id with
  | none => (92, m)
  | some _ => (0, mdel m id)
theorem pre_call0 {w w' : World} {l : List Asn} (h : Pre w l) (hm : Mem w [] w' []) : Mem w (foots l) w' l := call0 h hm
set_option maxRecDepth 100000 in
set_option maxHeartbeats 8000000 in
theorem d_Beat_time (w : World) (db mb : Nat) (g : Int) (m : List (Int × Peer)) (h : Pre w (detL db mb g m)) (id now : Int) (hid : -9223372036854775808 ≤ id ∧ id ≤ 9223372036854775807) (p : Peer) (hp : mget m id = some p) (ht : timeOk now = false) :
    Calls Try.prog 11 #[.pointer (some ⟨db, 0, none⟩), .int .i64 id, .int .i64 now] w (fun e w' => e = .returned (.int .i64 1) ∧ Mem w [] w' []) := by
  have O : Mem w [] w [] := Mem.begin
  have CT := Lib.hid (fun W => d_time now W)
  rw [ht] at CT
  have LK := Lib.hid (fun W (hW : Fr [] w W) => by
    have := look_peer (Mem.map (κ := intK) (vv := Peer.val) (Pre.view h hW) (b := mb) (m := m) (by simp [detL])) (okInt hid)
    rw [hp] at this
    simp only [Option.getD_some, Option.isSome_some, Peer.val] at this
    exact this)
  have H := Lib.hid h
  clear h hp hid ht
  obtain ⟨a, b, c, d⟩ := p
  simp only [detL] at H
  simp only at LK
  skip
  go_enter Try.func11, Try.ntmps11
  have cs := O.facts
  simp only [factsP, cellsP, roomP, foots_cons, foots_nil, foots_append, foot_pt, ptb, ptb_mapA, foot_mapA, factsP_mapA, foot_bun, List.append_nil, List.nil_append, List.cons_append, List.nodup_cons, List.nodup_nil, List.mem_cons, List.not_mem_nil, List.mem_singleton, List.forall_mem_cons, not_or, not_false_eq_true, and_true, true_and, or_false, false_or, forall_eq_or_imp, forall_eq, implies_true, Nat.zero_add, Nat.reduceAdd, and_assoc, factsP_mapA, ptb_mapA, ptb_listA, factsP_listA, Nat.mul_one, refCells, intCells, changeCells] at cs
  have v1 := (H.out.view O.fr).facts
  try simp only [cellsQ, roomP, and_assoc, and_true, true_and, Nat.add_zero, Nat.zero_add, Nat.reduceAdd, factsP, cellsP, roomP, foots_cons, foots_nil, foots_append, foot_pt, ptb, ptb_mapA, foot_mapA, factsP_mapA, foot_bun, List.append_nil, List.nil_append, List.cons_append, List.nodup_cons, List.nodup_nil, List.mem_cons, List.not_mem_nil, List.mem_singleton, List.forall_mem_cons, not_or, not_false_eq_true, and_true, true_and, or_false, false_or, forall_eq_or_imp, forall_eq, implies_true, Nat.zero_add, Nat.reduceAdd, and_assoc, factsP_mapA, ptb_mapA, ptb_listA, factsP_listA, Nat.mul_one, refCells, intCells, changeCells] at v1
  have v2 := (LK.out _ O.fr)
  try simp only [cellsQ, roomP, and_assoc, and_true, true_and, Nat.add_zero, Nat.zero_add, Nat.reduceAdd, factsP, cellsP, roomP, foots_cons, foots_nil, foots_append, foot_pt, ptb, ptb_mapA, foot_mapA, factsP_mapA, foot_bun, List.append_nil, List.nil_append, List.cons_append, List.nodup_cons, List.nodup_nil, List.mem_cons, List.not_mem_nil, List.mem_singleton, List.forall_mem_cons, not_or, not_false_eq_true, and_true, true_and, or_false, false_or, forall_eq_or_imp, forall_eq, implies_true, Nat.zero_add, Nat.reduceAdd, and_assoc, factsP_mapA, ptb_mapA, ptb_listA, factsP_listA, Nat.mul_one, refCells, intCells, changeCells] at v2
  go_upto_region 3 with fail
  first | apply Mem.atCall | apply Mem.atCode | apply Mem.atList
  case h => repeat' (first | (with_reducible exact O) | (with_reducible apply Mem.drew) | (with_reducible apply Mem.drewN) | (with_reducible apply Mem.ext) | (with_reducible apply Mem.alloc) | (with_reducible apply Mem.setCell) | (simp only [ptb, ptb_upd, foots_cons, List.mem_cons, World.size_alloc, size_ext, World.size_setCell, true_or, or_true, eq_self_iff_true, ptb_mapA, ptb_listA]))
  case' k =>
    intro w1 O'
    (try clear O)
    have O := O'
    clear O'
    (first | simp only [sel, rst, List.cons_append, List.nil_append, World.size_alloc, size_ext, World.size_setCell, size_setMap, World.size_drew, size_drewN, upd, List.set_cons_zero, List.set_cons_succ, if_true, if_false, reduceIte, not_false_eq_true, ne_lt0, ne_lt1, ne_lt2, ne_lt3, ne_lt4, cs] at O | simp only [sel, rst, List.cons_append, List.nil_append, World.size_alloc, size_ext, World.size_setCell, size_setMap, World.size_drew, size_drewN, upd, List.set_cons_zero, List.set_cons_succ, if_true, if_false, reduceIte, not_false_eq_true, ne_lt0, ne_lt1, ne_lt2, ne_lt3, ne_lt4] at O | skip)
    (try clear cs)
    (try clear v1)
    (try clear v2)
    (try clear v3)
  have cs := O.facts
  simp only [factsP, cellsP, roomP, foots_cons, foots_nil, foots_append, foot_pt, ptb, ptb_mapA, foot_mapA, factsP_mapA, foot_bun, List.append_nil, List.nil_append, List.cons_append, List.nodup_cons, List.nodup_nil, List.mem_cons, List.not_mem_nil, List.mem_singleton, List.forall_mem_cons, not_or, not_false_eq_true, and_true, true_and, or_false, false_or, forall_eq_or_imp, forall_eq, implies_true, Nat.zero_add, Nat.reduceAdd, and_assoc, factsP_mapA, ptb_mapA, ptb_listA, factsP_listA, Nat.mul_one, refCells, intCells, changeCells] at cs
  have v1 := (H.out.view O.fr).facts
  try simp only [cellsQ, roomP, and_assoc, and_true, true_and, Nat.add_zero, Nat.zero_add, Nat.reduceAdd, factsP, cellsP, roomP, foots_cons, foots_nil, foots_append, foot_pt, ptb, ptb_mapA, foot_mapA, factsP_mapA, foot_bun, List.append_nil, List.nil_append, List.cons_append, List.nodup_cons, List.nodup_nil, List.mem_cons, List.not_mem_nil, List.mem_singleton, List.forall_mem_cons, not_or, not_false_eq_true, and_true, true_and, or_false, false_or, forall_eq_or_imp, forall_eq, implies_true, Nat.zero_add, Nat.reduceAdd, and_assoc, factsP_mapA, ptb_mapA, ptb_listA, factsP_listA, Nat.mul_one, refCells, intCells, changeCells] at v1
  have v2 := (LK.out _ O.fr)
  try simp only [cellsQ, roomP, and_assoc, and_true, true_and, Nat.add_zero, Nat.zero_add, Nat.reduceAdd, factsP, cellsP, roomP, foots_cons, foots_nil, foots_append, foot_pt, ptb, ptb_mapA, foot_mapA, factsP_mapA, foot_bun, List.append_nil, List.nil_append, List.cons_append, List.nodup_cons, List.nodup_nil, List.mem_cons, List.not_mem_nil, List.mem_singleton, List.forall_mem_cons, not_or, not_false_eq_true, and_true, true_and, or_false, false_or, forall_eq_or_imp, forall_eq, implies_true, Nat.zero_add, Nat.reduceAdd, and_assoc, factsP_mapA, ptb_mapA, ptb_listA, factsP_listA, Nat.mul_one, refCells, intCells, changeCells] at v2
  go_wp2_with fail
  first | apply Mem.atCall | apply Mem.atCode | apply Mem.atList
  case h => repeat' (first | (with_reducible exact O) | (with_reducible apply Mem.drew) | (with_reducible apply Mem.drewN) | (with_reducible apply Mem.ext) | (with_reducible apply Mem.alloc) | (with_reducible apply Mem.setCell) | (simp only [ptb, ptb_upd, foots_cons, List.mem_cons, World.size_alloc, size_ext, World.size_setCell, true_or, or_true, eq_self_iff_true, ptb_mapA, ptb_listA]))
  case' k =>
    intro w2 O'
    (try clear O)
    have O := O'
    clear O'
    (first | simp only [sel, rst, List.cons_append, List.nil_append, World.size_alloc, size_ext, World.size_setCell, size_setMap, World.size_drew, size_drewN, upd, List.set_cons_zero, List.set_cons_succ, if_true, if_false, reduceIte, not_false_eq_true, ne_lt0, ne_lt1, ne_lt2, ne_lt3, ne_lt4, cs] at O | simp only [sel, rst, List.cons_append, List.nil_append, World.size_alloc, size_ext, World.size_setCell, size_setMap, World.size_drew, size_drewN, upd, List.set_cons_zero, List.set_cons_succ, if_true, if_false, reduceIte, not_false_eq_true, ne_lt0, ne_lt1, ne_lt2, ne_lt3, ne_lt4] at O | skip)
    (try clear cs)
    (try clear v1)
    (try clear v2)
    (try clear v3)
  refine (CT.out _).mono ?_
  rintro e w3 ⟨rfl, o⟩
  replace O := O.callp [] o
  clear o
  simp only [put, List.cons_append, List.nil_append] at O
  try simp only [List.nil_append] at O
  skip
  have cs := O.facts
  simp only [factsP, cellsP, roomP, foots_cons, foots_nil, foots_append, foot_pt, ptb, ptb_mapA, foot_mapA, factsP_mapA, foot_bun, List.append_nil, List.nil_append, List.cons_append, List.nodup_cons, List.nodup_nil, List.mem_cons, List.not_mem_nil, List.mem_singleton, List.forall_mem_cons, not_or, not_false_eq_true, and_true, true_and, or_false, false_or, forall_eq_or_imp, forall_eq, implies_true, Nat.zero_add, Nat.reduceAdd, and_assoc, factsP_mapA, ptb_mapA, ptb_listA, factsP_listA, Nat.mul_one, refCells, intCells, changeCells] at cs
  go_wp2_with fail
  go_ret
  exact ⟨rfl, O.fr0⟩
theorem d_beat9 (w : World) (db mb : Nat) (g : Int) (m : List (Int × Peer)) (h : Pre w (detL db mb g m)) (id now : Int) (hid : -9223372036854775808 ≤ id ∧ id ≤ 9223372036854775807) (hok : ∀ q ∈ m, q.2.ok) :
    Calls Try.prog 11 #[.pointer (some ⟨db, 0, none⟩), .int .i64 id, .int .i64 now] w (fun e w' => e = .returned (.int .i64 (beat9 m id now).1) ∧ Mem w (foots (detL db mb g m)) w' (detL db mb g (beat9 m id now).2)) := by
  unfold beat9
  cases hg : mget m id with
  | none => exact (d_Beat_none w db mb g m h id now hid hg).mono fun e w' ⟨h1, h2⟩ => ⟨h1, call0 h h2⟩
  | some p =>
    simp only
    by_cases ht : timeOk now = true
    · rw [if_pos ht]
      exact d_Beat w db mb g m h id now hid p hg (hok _ (mget_mem hg)) (by simpa [timeOk] using ht)
    · rw [if_neg ht]
      exact (d_Beat_time w db mb g m h id now hid p hg (by simpa using ht)).mono fun e w' ⟨h1, h2⟩ => ⟨h1, call0 h h2⟩
theorem d_leave9 (w : World) (db mb : Nat) (g : Int) (m : List (Int × Peer)) (h : Pre w (detL db mb g m)) (id : Int) (hid : -9223372036854775808 ≤ id ∧ id ≤ 9223372036854775807) :
    Calls Try.prog 15 #[.pointer (some ⟨db, 0, none⟩), .int .i64 id] w (fun e w' => e = .returned (.int .i64 (leave9 m id).1) ∧ Mem w (foots (detL db mb g m)) w' (detL db mb g (leave9 m id).2)) := by
  unfold leave9
  cases hg : mget m id with
  | none => exact (d_Leave_none w db mb g m h id hid hg).mono fun e w' ⟨h1, h2⟩ => ⟨h1, call0 h h2⟩
  | some p => exact d_Leave w db mb g m h id hid p hg
set_option maxRecDepth 100000 in
set_option maxHeartbeats 4000000 in
theorem d_Wait_none (w : World) (db mb : Nat) (g : Int) (m : List (Int × Peer)) (h : Pre w (detL db mb g m)) (id : Int) (hid : intK.ok id) (hp : mget m id = none) :
    Calls Try.prog 12 #[.pointer (some ⟨db, 0, none⟩), .int .i64 id] w (fun e w' => e = .returned (.tuple #[.int .i64 0, .int .i64 92]) ∧ Mem w [] w' []) := by
  have O : Mem w [] w [] := Mem.begin
  have LK := Lib.hid (fun W (hW : Fr [] w W) => by
    have := look_peer (Mem.map (κ := intK) (vv := Peer.val) (Pre.view h hW) (b := mb) (m := m) (by simp [detL])) hid
    rw [hp] at this
    simp only [Option.getD_none, Option.isSome_none, Peer.val, noPeer] at this
    exact this)
  have H := Lib.hid h
  clear h hp hid
  simp only [detL] at H
  skip
  go_enter Try.func12, Try.ntmps12
  have cs := O.facts
  simp only [factsP, cellsP, roomP, foots_cons, foots_nil, foots_append, foot_pt, ptb, ptb_mapA, foot_mapA, factsP_mapA, foot_bun, List.append_nil, List.nil_append, List.cons_append, List.nodup_cons, List.nodup_nil, List.mem_cons, List.not_mem_nil, List.mem_singleton, List.forall_mem_cons, not_or, not_false_eq_true, and_true, true_and, or_false, false_or, forall_eq_or_imp, forall_eq, implies_true, Nat.zero_add, Nat.reduceAdd, and_assoc, factsP_mapA, ptb_mapA, ptb_listA, factsP_listA, Nat.mul_one, refCells, intCells, changeCells] at cs
  have v1 := (H.out.view O.fr).facts
  try simp only [cellsQ, roomP, and_assoc, and_true, true_and, Nat.add_zero, Nat.zero_add, Nat.reduceAdd, factsP, cellsP, roomP, foots_cons, foots_nil, foots_append, foot_pt, ptb, ptb_mapA, foot_mapA, factsP_mapA, foot_bun, List.append_nil, List.nil_append, List.cons_append, List.nodup_cons, List.nodup_nil, List.mem_cons, List.not_mem_nil, List.mem_singleton, List.forall_mem_cons, not_or, not_false_eq_true, and_true, true_and, or_false, false_or, forall_eq_or_imp, forall_eq, implies_true, Nat.zero_add, Nat.reduceAdd, and_assoc, factsP_mapA, ptb_mapA, ptb_listA, factsP_listA, Nat.mul_one, refCells, intCells, changeCells] at v1
  have v2 := (LK.out _ O.fr)
  try simp only [cellsQ, roomP, and_assoc, and_true, true_and, Nat.add_zero, Nat.zero_add, Nat.reduceAdd, factsP, cellsP, roomP, foots_cons, foots_nil, foots_append, foot_pt, ptb, ptb_mapA, foot_mapA, factsP_mapA, foot_bun, List.append_nil, List.nil_append, List.cons_append, List.nodup_cons, List.nodup_nil, List.mem_cons, List.not_mem_nil, List.mem_singleton, List.forall_mem_cons, not_or, not_false_eq_true, and_true, true_and, or_false, false_or, forall_eq_or_imp, forall_eq, implies_true, Nat.zero_add, Nat.reduceAdd, and_assoc, factsP_mapA, ptb_mapA, ptb_listA, factsP_listA, Nat.mul_one, refCells, intCells, changeCells] at v2
  go_upto_region 3 with fail
  first | apply Mem.atCall | apply Mem.atCode | apply Mem.atList
  case h => repeat' (first | (with_reducible exact O) | (with_reducible apply Mem.drew) | (with_reducible apply Mem.drewN) | (with_reducible apply Mem.ext) | (with_reducible apply Mem.alloc) | (with_reducible apply Mem.setCell) | (simp only [ptb, ptb_upd, foots_cons, List.mem_cons, World.size_alloc, size_ext, World.size_setCell, true_or, or_true, eq_self_iff_true, ptb_mapA, ptb_listA]))
  case' k =>
    intro w1 O'
    (try clear O)
    have O := O'
    clear O'
    (first | simp only [sel, rst, List.cons_append, List.nil_append, World.size_alloc, size_ext, World.size_setCell, size_setMap, World.size_drew, size_drewN, upd, List.set_cons_zero, List.set_cons_succ, if_true, if_false, reduceIte, not_false_eq_true, ne_lt0, ne_lt1, ne_lt2, ne_lt3, ne_lt4, cs] at O | simp only [sel, rst, List.cons_append, List.nil_append, World.size_alloc, size_ext, World.size_setCell, size_setMap, World.size_drew, size_drewN, upd, List.set_cons_zero, List.set_cons_succ, if_true, if_false, reduceIte, not_false_eq_true, ne_lt0, ne_lt1, ne_lt2, ne_lt3, ne_lt4] at O | skip)
    (try clear cs)
    (try clear v1)
    (try clear v2)
    (try clear v3)
  have cs := O.facts
  simp only [factsP, cellsP, roomP, foots_cons, foots_nil, foots_append, foot_pt, ptb, ptb_mapA, foot_mapA, factsP_mapA, foot_bun, List.append_nil, List.nil_append, List.cons_append, List.nodup_cons, List.nodup_nil, List.mem_cons, List.not_mem_nil, List.mem_singleton, List.forall_mem_cons, not_or, not_false_eq_true, and_true, true_and, or_false, false_or, forall_eq_or_imp, forall_eq, implies_true, Nat.zero_add, Nat.reduceAdd, and_assoc, factsP_mapA, ptb_mapA, ptb_listA, factsP_listA, Nat.mul_one, refCells, intCells, changeCells] at cs
  have v1 := (H.out.view O.fr).facts
  try simp only [cellsQ, roomP, and_assoc, and_true, true_and, Nat.add_zero, Nat.zero_add, Nat.reduceAdd, factsP, cellsP, roomP, foots_cons, foots_nil, foots_append, foot_pt, ptb, ptb_mapA, foot_mapA, factsP_mapA, foot_bun, List.append_nil, List.nil_append, List.cons_append, List.nodup_cons, List.nodup_nil, List.mem_cons, List.not_mem_nil, List.mem_singleton, List.forall_mem_cons, not_or, not_false_eq_true, and_true, true_and, or_false, false_or, forall_eq_or_imp, forall_eq, implies_true, Nat.zero_add, Nat.reduceAdd, and_assoc, factsP_mapA, ptb_mapA, ptb_listA, factsP_listA, Nat.mul_one, refCells, intCells, changeCells] at v1
  have v2 := (LK.out _ O.fr)
  try simp only [cellsQ, roomP, and_assoc, and_true, true_and, Nat.add_zero, Nat.zero_add, Nat.reduceAdd, factsP, cellsP, roomP, foots_cons, foots_nil, foots_append, foot_pt, ptb, ptb_mapA, foot_mapA, factsP_mapA, foot_bun, List.append_nil, List.nil_append, List.cons_append, List.nodup_cons, List.nodup_nil, List.mem_cons, List.not_mem_nil, List.mem_singleton, List.forall_mem_cons, not_or, not_false_eq_true, and_true, true_and, or_false, false_or, forall_eq_or_imp, forall_eq, implies_true, Nat.zero_add, Nat.reduceAdd, and_assoc, factsP_mapA, ptb_mapA, ptb_listA, factsP_listA, Nat.mul_one, refCells, intCells, changeCells] at v2
  go_wp2_with fail
  go_ret2
  exact ⟨rfl, (O.alloc noPeer.cells 59).fr0⟩
set_option maxRecDepth 100000 in
set_option maxHeartbeats 4000000 in
theorem d_New_bad (g : Int) (w : World) (h : ¬ (1 ≤ g ∧ g ≤ 4096)) : Calls Try.prog 8 #[.int .i64 g] w (fun e w' => e = .returned (.tuple #[.pointer none, .int .i64 1]) ∧ Mem w [] w' []) := by
  have O : Mem w [] w [] := Mem.begin
  by_cases h1 : g < 1
  · go_enter Try.func8, Try.ntmps8
    go_wp2
    go_ret2
    exact ⟨rfl, O⟩
  · have h2 : 4096 < g := by omega
    go_enter Try.func8, Try.ntmps8
    go_wp2
    go_ret2
    exact ⟨rfl, O⟩
set_option maxRecDepth 100000 in
set_option maxHeartbeats 4000000 in
theorem c_sameInts (w : World) (A : Option Addr) (c : Nat) (B : Option Addr) (d : Nat) (l : List Int) (h : Pre w [listA 3 1 intCells A c l, listA 3 1 intCells B d l]) (hl : l.length ≤ 1000) :
    Calls Try.prog 25 #[.slice A l.length c, .slice B l.length d] w (fun e w' => e = .returned (.bool true) ∧ Mem w [] w' []) := by
  have O : Mem w [] w [] := Mem.begin
  have H := Lib.hid h
  clear h
  skip
  go_enter Try.func25, Try.ntmps25
  have cs := O.facts
  simp only [factsP, cellsP, roomP, foots_cons, foots_nil, foots_append, foot_pt, ptb, ptb_mapA, foot_mapA, factsP_mapA, foot_bun, List.append_nil, List.nil_append, List.cons_append, List.nodup_cons, List.nodup_nil, List.mem_cons, List.not_mem_nil, List.mem_singleton, List.forall_mem_cons, not_or, not_false_eq_true, and_true, true_and, or_false, false_or, forall_eq_or_imp, forall_eq, implies_true, Nat.zero_add, Nat.reduceAdd, and_assoc, factsP_mapA, ptb_mapA, ptb_listA, factsP_listA, Nat.mul_one, refCells, intCells, changeCells] at cs
  go_wp2_with fail
  clear cs
  go_loopw [5] (fun s wr => ∃ k : Nat, k ≤ l.length ∧ s = .int .i64 k ∧ Mem w [] wr []) (fun s _ => l.length - (intOf s).toNat)
  case atStart => exact ⟨0, by omega, rfl, O⟩
  case round =>
    clear O
    obtain ⟨k, hk, rfl, O⟩ := hrel
    by_cases hlt : k < l.length
    · have hlti : (k : Int) < l.length := by omega
      obtain ⟨q, hq⟩ : ∃ q, l[k]? = some q := ⟨_, List.getElem?_eq_getElem hlt⟩
      obtain ⟨ga, rfl, _⟩ := listA_get (cs := intCells) (fun _ => rfl) (H.out.hold (listA 3 1 intCells A c l) (by simp)) hq
      obtain ⟨gb, rfl, _⟩ := listA_get (cs := intCells) (fun _ => rfl) (H.out.hold (listA 3 1 intCells B d l) (by simp)) hq
      have HQ := Lib.hid hq
      clear hq
      skip
      have cs := O.facts
      simp only [factsP, cellsP, roomP, foots_cons, foots_nil, foots_append, foot_pt, ptb, ptb_mapA, foot_mapA, factsP_mapA, foot_bun, List.append_nil, List.nil_append, List.cons_append, List.nodup_cons, List.nodup_nil, List.mem_cons, List.not_mem_nil, List.mem_singleton, List.forall_mem_cons, not_or, not_false_eq_true, and_true, true_and, or_false, false_or, forall_eq_or_imp, forall_eq, implies_true, Nat.zero_add, Nat.reduceAdd, and_assoc, factsP_mapA, ptb_mapA, ptb_listA, factsP_listA, Nat.mul_one, refCells, intCells, changeCells] at cs
      have v1 := (listA_at (cs := intCells) (fun _ => rfl) ((H.out.view O.fr).hold (listA 3 1 intCells (some ⟨ga, 0, none⟩) c l) (by simp)) HQ.out)
      try simp only [cellsQ, roomP, and_assoc, and_true, true_and, Nat.add_zero, Nat.zero_add, Nat.reduceAdd, factsP, cellsP, roomP, foots_cons, foots_nil, foots_append, foot_pt, ptb, ptb_mapA, foot_mapA, factsP_mapA, foot_bun, List.append_nil, List.nil_append, List.cons_append, List.nodup_cons, List.nodup_nil, List.mem_cons, List.not_mem_nil, List.mem_singleton, List.forall_mem_cons, not_or, not_false_eq_true, and_true, true_and, or_false, false_or, forall_eq_or_imp, forall_eq, implies_true, Nat.zero_add, Nat.reduceAdd, and_assoc, factsP_mapA, ptb_mapA, ptb_listA, factsP_listA, Nat.mul_one, refCells, intCells, changeCells] at v1
      have v2 := (listA_at (cs := intCells) (fun _ => rfl) ((H.out.view O.fr).hold (listA 3 1 intCells (some ⟨gb, 0, none⟩) d l) (by simp)) HQ.out)
      try simp only [cellsQ, roomP, and_assoc, and_true, true_and, Nat.add_zero, Nat.zero_add, Nat.reduceAdd, factsP, cellsP, roomP, foots_cons, foots_nil, foots_append, foot_pt, ptb, ptb_mapA, foot_mapA, factsP_mapA, foot_bun, List.append_nil, List.nil_append, List.cons_append, List.nodup_cons, List.nodup_nil, List.mem_cons, List.not_mem_nil, List.mem_singleton, List.forall_mem_cons, not_or, not_false_eq_true, and_true, true_and, or_false, false_or, forall_eq_or_imp, forall_eq, implies_true, Nat.zero_add, Nat.reduceAdd, and_assoc, factsP_mapA, ptb_mapA, ptb_listA, factsP_listA, Nat.mul_one, refCells, intCells, changeCells] at v2
      go_upto_region 6 with fail
      apply region_quiet_mem (by kernel_rfl) (by kernel_rfl)
      case O => repeat' (first | (with_reducible exact O) | (with_reducible apply Mem.drew) | (with_reducible apply Mem.drewN) | (with_reducible apply Mem.ext) | (with_reducible apply Mem.alloc) | (with_reducible apply Mem.setCell) | (simp only [ptb, ptb_upd, foots_cons, List.mem_cons, World.size_alloc, size_ext, World.size_setCell, true_or, or_true, eq_self_iff_true, ptb_mapA, ptb_listA]))
      case' h =>
        intro y1 O'
        (try clear O)
        have O := O'
        clear O'
        (first | simp only [sel, rst, List.cons_append, List.nil_append, World.size_alloc, size_ext, World.size_setCell, size_setMap, World.size_drew, size_drewN, upd, List.set_cons_zero, List.set_cons_succ, if_true, if_false, reduceIte, not_false_eq_true, ne_lt0, ne_lt1, ne_lt2, ne_lt3, ne_lt4, cs] at O | simp only [sel, rst, List.cons_append, List.nil_append, World.size_alloc, size_ext, World.size_setCell, size_setMap, World.size_drew, size_drewN, upd, List.set_cons_zero, List.set_cons_succ, if_true, if_false, reduceIte, not_false_eq_true, ne_lt0, ne_lt1, ne_lt2, ne_lt3, ne_lt4] at O | skip)
        (try clear cs)
        (try clear v1)
        (try clear v2)
        (try clear v3)
      have cs := O.facts
      simp only [factsP, cellsP, roomP, foots_cons, foots_nil, foots_append, foot_pt, ptb, ptb_mapA, foot_mapA, factsP_mapA, foot_bun, List.append_nil, List.nil_append, List.cons_append, List.nodup_cons, List.nodup_nil, List.mem_cons, List.not_mem_nil, List.mem_singleton, List.forall_mem_cons, not_or, not_false_eq_true, and_true, true_and, or_false, false_or, forall_eq_or_imp, forall_eq, implies_true, Nat.zero_add, Nat.reduceAdd, and_assoc, factsP_mapA, ptb_mapA, ptb_listA, factsP_listA, Nat.mul_one, refCells, intCells, changeCells] at cs
      have v1 := (listA_at (cs := intCells) (fun _ => rfl) ((H.out.view O.fr).hold (listA 3 1 intCells (some ⟨ga, 0, none⟩) c l) (by simp)) HQ.out)
      try simp only [cellsQ, roomP, and_assoc, and_true, true_and, Nat.add_zero, Nat.zero_add, Nat.reduceAdd, factsP, cellsP, roomP, foots_cons, foots_nil, foots_append, foot_pt, ptb, ptb_mapA, foot_mapA, factsP_mapA, foot_bun, List.append_nil, List.nil_append, List.cons_append, List.nodup_cons, List.nodup_nil, List.mem_cons, List.not_mem_nil, List.mem_singleton, List.forall_mem_cons, not_or, not_false_eq_true, and_true, true_and, or_false, false_or, forall_eq_or_imp, forall_eq, implies_true, Nat.zero_add, Nat.reduceAdd, and_assoc, factsP_mapA, ptb_mapA, ptb_listA, factsP_listA, Nat.mul_one, refCells, intCells, changeCells] at v1
      have v2 := (listA_at (cs := intCells) (fun _ => rfl) ((H.out.view O.fr).hold (listA 3 1 intCells (some ⟨gb, 0, none⟩) d l) (by simp)) HQ.out)
      try simp only [cellsQ, roomP, and_assoc, and_true, true_and, Nat.add_zero, Nat.zero_add, Nat.reduceAdd, factsP, cellsP, roomP, foots_cons, foots_nil, foots_append, foot_pt, ptb, ptb_mapA, foot_mapA, factsP_mapA, foot_bun, List.append_nil, List.nil_append, List.cons_append, List.nodup_cons, List.nodup_nil, List.mem_cons, List.not_mem_nil, List.mem_singleton, List.forall_mem_cons, not_or, not_false_eq_true, and_true, true_and, or_false, false_or, forall_eq_or_imp, forall_eq, implies_true, Nat.zero_add, Nat.reduceAdd, and_assoc, factsP_mapA, ptb_mapA, ptb_listA, factsP_listA, Nat.mul_one, refCells, intCells, changeCells] at v2
      repeat (go_big_quiet_step ((fail)))
      refine wpQuiet_nil ?_
      intro y2 hq
      (try clear cs)
      (try clear v1)
      (try clear v2)
      (try clear v3)
      replace O := O.qext hq
      clear hq
      have cs := O.facts
      simp only [factsP, cellsP, roomP, foots_cons, foots_nil, foots_append, foot_pt, ptb, ptb_mapA, foot_mapA, factsP_mapA, foot_bun, List.append_nil, List.nil_append, List.cons_append, List.nodup_cons, List.nodup_nil, List.mem_cons, List.not_mem_nil, List.mem_singleton, List.forall_mem_cons, not_or, not_false_eq_true, and_true, true_and, or_false, false_or, forall_eq_or_imp, forall_eq, implies_true, Nat.zero_add, Nat.reduceAdd, and_assoc, factsP_mapA, ptb_mapA, ptb_listA, factsP_listA, Nat.mul_one, refCells, intCells, changeCells] at cs
      have v1 := (listA_at (cs := intCells) (fun _ => rfl) ((H.out.view O.fr).hold (listA 3 1 intCells (some ⟨ga, 0, none⟩) c l) (by simp)) HQ.out)
      try simp only [cellsQ, roomP, and_assoc, and_true, true_and, Nat.add_zero, Nat.zero_add, Nat.reduceAdd, factsP, cellsP, roomP, foots_cons, foots_nil, foots_append, foot_pt, ptb, ptb_mapA, foot_mapA, factsP_mapA, foot_bun, List.append_nil, List.nil_append, List.cons_append, List.nodup_cons, List.nodup_nil, List.mem_cons, List.not_mem_nil, List.mem_singleton, List.forall_mem_cons, not_or, not_false_eq_true, and_true, true_and, or_false, false_or, forall_eq_or_imp, forall_eq, implies_true, Nat.zero_add, Nat.reduceAdd, and_assoc, factsP_mapA, ptb_mapA, ptb_listA, factsP_listA, Nat.mul_one, refCells, intCells, changeCells] at v1
      have v2 := (listA_at (cs := intCells) (fun _ => rfl) ((H.out.view O.fr).hold (listA 3 1 intCells (some ⟨gb, 0, none⟩) d l) (by simp)) HQ.out)
      try simp only [cellsQ, roomP, and_assoc, and_true, true_and, Nat.add_zero, Nat.zero_add, Nat.reduceAdd, factsP, cellsP, roomP, foots_cons, foots_nil, foots_append, foot_pt, ptb, ptb_mapA, foot_mapA, factsP_mapA, foot_bun, List.append_nil, List.nil_append, List.cons_append, List.nodup_cons, List.nodup_nil, List.mem_cons, List.not_mem_nil, List.mem_singleton, List.forall_mem_cons, not_or, not_false_eq_true, and_true, true_and, or_false, false_or, forall_eq_or_imp, forall_eq, implies_true, Nat.zero_add, Nat.reduceAdd, and_assoc, factsP_mapA, ptb_mapA, ptb_listA, factsP_listA, Nat.mul_one, refCells, intCells, changeCells] at v2
      go_wp2_with fail
      go_roundw
      case rel => exact ⟨k + 1, by omega, by go_num, O⟩
      case measure => simp [intOf]; omega
    · obtain rfl : k = l.length := by omega
      skip
      have cs := O.facts
      simp only [factsP, cellsP, roomP, foots_cons, foots_nil, foots_append, foot_pt, ptb, ptb_mapA, foot_mapA, factsP_mapA, foot_bun, List.append_nil, List.nil_append, List.cons_append, List.nodup_cons, List.nodup_nil, List.mem_cons, List.not_mem_nil, List.mem_singleton, List.forall_mem_cons, not_or, not_false_eq_true, and_true, true_and, or_false, false_or, forall_eq_or_imp, forall_eq, implies_true, Nat.zero_add, Nat.reduceAdd, and_assoc, factsP_mapA, ptb_mapA, ptb_listA, factsP_listA, Nat.mul_one, refCells, intCells, changeCells] at cs
      go_wp2_with fail
      go_ret
      exact ⟨rfl, O⟩
set_option maxRecDepth 100000 in
set_option maxHeartbeats 4000000 in
theorem c_sameChanges (w : World) (A : Option Addr) (c : Nat) (B : Option Addr) (d : Nat) (l : List (Int × Bool)) (h : Pre w [listA 50 2 changeCells A c l, listA 50 2 changeCells B d l]) (hl : l.length ≤ 1000) :
    Calls Try.prog 27 #[.slice A l.length c, .slice B l.length d] w (fun e w' => e = .returned (.bool true) ∧ Mem w [] w' []) := by
  have O : Mem w [] w [] := Mem.begin
  have H := Lib.hid h
  clear h
  skip
  go_enter Try.func27, Try.ntmps27
  have cs := O.facts
  simp only [factsP, cellsP, roomP, foots_cons, foots_nil, foots_append, foot_pt, ptb, ptb_mapA, foot_mapA, factsP_mapA, foot_bun, List.append_nil, List.nil_append, List.cons_append, List.nodup_cons, List.nodup_nil, List.mem_cons, List.not_mem_nil, List.mem_singleton, List.forall_mem_cons, not_or, not_false_eq_true, and_true, true_and, or_false, false_or, forall_eq_or_imp, forall_eq, implies_true, Nat.zero_add, Nat.reduceAdd, and_assoc, factsP_mapA, ptb_mapA, ptb_listA, factsP_listA, Nat.mul_one, refCells, intCells, changeCells] at cs
  go_wp2_with fail
  clear cs
  go_loopw [5] (fun s wr => ∃ k : Nat, k ≤ l.length ∧ s = .int .i64 k ∧ Mem w [] wr []) (fun s _ => l.length - (intOf s).toNat)
  case atStart => exact ⟨0, by omega, rfl, O⟩
  case round =>
    clear O
    obtain ⟨k, hk, rfl, O⟩ := hrel
    by_cases hlt : k < l.length
    · have hlti : (k : Int) < l.length := by omega
      obtain ⟨⟨qi, qb⟩, hq⟩ : ∃ q, l[k]? = some q := ⟨_, List.getElem?_eq_getElem hlt⟩
      obtain ⟨ga, rfl, _⟩ := listA_get (cs := changeCells) (fun _ => rfl) (H.out.hold (listA 50 2 changeCells A c l) (by simp)) hq
      obtain ⟨gb, rfl, _⟩ := listA_get (cs := changeCells) (fun _ => rfl) (H.out.hold (listA 50 2 changeCells B d l) (by simp)) hq
      have HQ := Lib.hid hq
      clear hq
      skip
      have cs := O.facts
      simp only [factsP, cellsP, roomP, foots_cons, foots_nil, foots_append, foot_pt, ptb, ptb_mapA, foot_mapA, factsP_mapA, foot_bun, List.append_nil, List.nil_append, List.cons_append, List.nodup_cons, List.nodup_nil, List.mem_cons, List.not_mem_nil, List.mem_singleton, List.forall_mem_cons, not_or, not_false_eq_true, and_true, true_and, or_false, false_or, forall_eq_or_imp, forall_eq, implies_true, Nat.zero_add, Nat.reduceAdd, and_assoc, factsP_mapA, ptb_mapA, ptb_listA, factsP_listA, Nat.mul_one, refCells, intCells, changeCells] at cs
      have v1 := (listA_at (cs := changeCells) (fun _ => rfl) ((H.out.view O.fr).hold (listA 50 2 changeCells (some ⟨ga, 0, none⟩) c l) (by simp)) HQ.out)
      try simp only [cellsQ, roomP, and_assoc, and_true, true_and, Nat.add_zero, Nat.zero_add, Nat.reduceAdd, factsP, cellsP, roomP, foots_cons, foots_nil, foots_append, foot_pt, ptb, ptb_mapA, foot_mapA, factsP_mapA, foot_bun, List.append_nil, List.nil_append, List.cons_append, List.nodup_cons, List.nodup_nil, List.mem_cons, List.not_mem_nil, List.mem_singleton, List.forall_mem_cons, not_or, not_false_eq_true, and_true, true_and, or_false, false_or, forall_eq_or_imp, forall_eq, implies_true, Nat.zero_add, Nat.reduceAdd, and_assoc, factsP_mapA, ptb_mapA, ptb_listA, factsP_listA, Nat.mul_one, refCells, intCells, changeCells] at v1
      have v2 := (listA_at (cs := changeCells) (fun _ => rfl) ((H.out.view O.fr).hold (listA 50 2 changeCells (some ⟨gb, 0, none⟩) d l) (by simp)) HQ.out)
      try simp only [cellsQ, roomP, and_assoc, and_true, true_and, Nat.add_zero, Nat.zero_add, Nat.reduceAdd, factsP, cellsP, roomP, foots_cons, foots_nil, foots_append, foot_pt, ptb, ptb_mapA, foot_mapA, factsP_mapA, foot_bun, List.append_nil, List.nil_append, List.cons_append, List.nodup_cons, List.nodup_nil, List.mem_cons, List.not_mem_nil, List.mem_singleton, List.forall_mem_cons, not_or, not_false_eq_true, and_true, true_and, or_false, false_or, forall_eq_or_imp, forall_eq, implies_true, Nat.zero_add, Nat.reduceAdd, and_assoc, factsP_mapA, ptb_mapA, ptb_listA, factsP_listA, Nat.mul_one, refCells, intCells, changeCells] at v2
      go_upto_region 6 with fail
      apply region_quiet_mem (by kernel_rfl) (by kernel_rfl)
      case O => repeat' (first | (with_reducible exact O) | (with_reducible apply Mem.drew) | (with_reducible apply Mem.drewN) | (with_reducible apply Mem.ext) | (with_reducible apply Mem.alloc) | (with_reducible apply Mem.setCell) | (simp only [ptb, ptb_upd, foots_cons, List.mem_cons, World.size_alloc, size_ext, World.size_setCell, true_or, or_true, eq_self_iff_true, ptb_mapA, ptb_listA]))
      case' h =>
        intro y1 O'
        (try clear O)
        have O := O'
        clear O'
        (first | simp only [sel, rst, List.cons_append, List.nil_append, World.size_alloc, size_ext, World.size_setCell, size_setMap, World.size_drew, size_drewN, upd, List.set_cons_zero, List.set_cons_succ, if_true, if_false, reduceIte, not_false_eq_true, ne_lt0, ne_lt1, ne_lt2, ne_lt3, ne_lt4, cs] at O | simp only [sel, rst, List.cons_append, List.nil_append, World.size_alloc, size_ext, World.size_setCell, size_setMap, World.size_drew, size_drewN, upd, List.set_cons_zero, List.set_cons_succ, if_true, if_false, reduceIte, not_false_eq_true, ne_lt0, ne_lt1, ne_lt2, ne_lt3, ne_lt4] at O | skip)
        (try clear cs)
        (try clear v1)
        (try clear v2)
        (try clear v3)
      have cs := O.facts
      simp only [factsP, cellsP, roomP, foots_cons, foots_nil, foots_append, foot_pt, ptb, ptb_mapA, foot_mapA, factsP_mapA, foot_bun, List.append_nil, List.nil_append, List.cons_append, List.nodup_cons, List.nodup_nil, List.mem_cons, List.not_mem_nil, List.mem_singleton, List.forall_mem_cons, not_or, not_false_eq_true, and_true, true_and, or_false, false_or, forall_eq_or_imp, forall_eq, implies_true, Nat.zero_add, Nat.reduceAdd, and_assoc, factsP_mapA, ptb_mapA, ptb_listA, factsP_listA, Nat.mul_one, refCells, intCells, changeCells] at cs
      have v1 := (listA_at (cs := changeCells) (fun _ => rfl) ((H.out.view O.fr).hold (listA 50 2 changeCells (some ⟨ga, 0, none⟩) c l) (by simp)) HQ.out)
      try simp only [cellsQ, roomP, and_assoc, and_true, true_and, Nat.add_zero, Nat.zero_add, Nat.reduceAdd, factsP, cellsP, roomP, foots_cons, foots_nil, foots_append, foot_pt, ptb, ptb_mapA, foot_mapA, factsP_mapA, foot_bun, List.append_nil, List.nil_append, List.cons_append, List.nodup_cons, List.nodup_nil, List.mem_cons, List.not_mem_nil, List.mem_singleton, List.forall_mem_cons, not_or, not_false_eq_true, and_true, true_and, or_false, false_or, forall_eq_or_imp, forall_eq, implies_true, Nat.zero_add, Nat.reduceAdd, and_assoc, factsP_mapA, ptb_mapA, ptb_listA, factsP_listA, Nat.mul_one, refCells, intCells, changeCells] at v1
      have v2 := (listA_at (cs := changeCells) (fun _ => rfl) ((H.out.view O.fr).hold (listA 50 2 changeCells (some ⟨gb, 0, none⟩) d l) (by simp)) HQ.out)
      try simp only [cellsQ, roomP, and_assoc, and_true, true_and, Nat.add_zero, Nat.zero_add, Nat.reduceAdd, factsP, cellsP, roomP, foots_cons, foots_nil, foots_append, foot_pt, ptb, ptb_mapA, foot_mapA, factsP_mapA, foot_bun, List.append_nil, List.nil_append, List.cons_append, List.nodup_cons, List.nodup_nil, List.mem_cons, List.not_mem_nil, List.mem_singleton, List.forall_mem_cons, not_or, not_false_eq_true, and_true, true_and, or_false, false_or, forall_eq_or_imp, forall_eq, implies_true, Nat.zero_add, Nat.reduceAdd, and_assoc, factsP_mapA, ptb_mapA, ptb_listA, factsP_listA, Nat.mul_one, refCells, intCells, changeCells] at v2
      repeat (go_big_quiet_step ((fail)))
      refine wpQuiet_nil ?_
      intro y2 hq
      (try clear cs)
      (try clear v1)
      (try clear v2)
      (try clear v3)
      replace O := O.qext hq
      clear hq
      have cs := O.facts
      simp only [factsP, cellsP, roomP, foots_cons, foots_nil, foots_append, foot_pt, ptb, ptb_mapA, foot_mapA, factsP_mapA, foot_bun, List.append_nil, List.nil_append, List.cons_append, List.nodup_cons, List.nodup_nil, List.mem_cons, List.not_mem_nil, List.mem_singleton, List.forall_mem_cons, not_or, not_false_eq_true, and_true, true_and, or_false, false_or, forall_eq_or_imp, forall_eq, implies_true, Nat.zero_add, Nat.reduceAdd, and_assoc, factsP_mapA, ptb_mapA, ptb_listA, factsP_listA, Nat.mul_one, refCells, intCells, changeCells] at cs
      have v1 := (listA_at (cs := changeCells) (fun _ => rfl) ((H.out.view O.fr).hold (listA 50 2 changeCells (some ⟨ga, 0, none⟩) c l) (by simp)) HQ.out)
      try simp only [cellsQ, roomP, and_assoc, and_true, true_and, Nat.add_zero, Nat.zero_add, Nat.reduceAdd, factsP, cellsP, roomP, foots_cons, foots_nil, foots_append, foot_pt, ptb, ptb_mapA, foot_mapA, factsP_mapA, foot_bun, List.append_nil, List.nil_append, List.cons_append, List.nodup_cons, List.nodup_nil, List.mem_cons, List.not_mem_nil, List.mem_singleton, List.forall_mem_cons, not_or, not_false_eq_true, and_true, true_and, or_false, false_or, forall_eq_or_imp, forall_eq, implies_true, Nat.zero_add, Nat.reduceAdd, and_assoc, factsP_mapA, ptb_mapA, ptb_listA, factsP_listA, Nat.mul_one, refCells, intCells, changeCells] at v1
      have v2 := (listA_at (cs := changeCells) (fun _ => rfl) ((H.out.view O.fr).hold (listA 50 2 changeCells (some ⟨gb, 0, none⟩) d l) (by simp)) HQ.out)
      try simp only [cellsQ, roomP, and_assoc, and_true, true_and, Nat.add_zero, Nat.zero_add, Nat.reduceAdd, factsP, cellsP, roomP, foots_cons, foots_nil, foots_append, foot_pt, ptb, ptb_mapA, foot_mapA, factsP_mapA, foot_bun, List.append_nil, List.nil_append, List.cons_append, List.nodup_cons, List.nodup_nil, List.mem_cons, List.not_mem_nil, List.mem_singleton, List.forall_mem_cons, not_or, not_false_eq_true, and_true, true_and, or_false, false_or, forall_eq_or_imp, forall_eq, implies_true, Nat.zero_add, Nat.reduceAdd, and_assoc, factsP_mapA, ptb_mapA, ptb_listA, factsP_listA, Nat.mul_one, refCells, intCells, changeCells] at v2
      go_wp2_with fail
      go_roundw
      case rel => exact ⟨k + 1, by omega, by go_num, O⟩
      case measure => simp [intOf]; omega
    · obtain rfl : k = l.length := by omega
      skip
      have cs := O.facts
      simp only [factsP, cellsP, roomP, foots_cons, foots_nil, foots_append, foot_pt, ptb, ptb_mapA, foot_mapA, factsP_mapA, foot_bun, List.append_nil, List.nil_append, List.cons_append, List.nodup_cons, List.nodup_nil, List.mem_cons, List.not_mem_nil, List.mem_singleton, List.forall_mem_cons, not_or, not_false_eq_true, and_true, true_and, or_false, false_or, forall_eq_or_imp, forall_eq, implies_true, Nat.zero_add, Nat.reduceAdd, and_assoc, factsP_mapA, ptb_mapA, ptb_listA, factsP_listA, Nat.mul_one, refCells, intCells, changeCells] at cs
      go_wp2_with fail
      go_ret
      exact ⟨rfl, O⟩
end Go.Proofs.Ytobiodbdnpcanaa
