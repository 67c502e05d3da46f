/- WALKS: what the law's head comes to (awake). -/
import Derived.Test.YtpgdnifeafmfaaaAwake07
import Derived.Lib.SlBytesConst
set_option linter.unusedVariables false
set_option linter.unusedSimpArgs false
namespace Go.Proofs.Ytpgdnifeafmfaaa
open Go.RowKit Go.Tk
theorem rd_alloc (w : World) (l : List UInt8) (fz : Nat × Nat) : Rd (w.alloc (.cells (l.flatMap byteCells).toArray 5 fz)) (some ⟨w.heap.size, 0, none⟩) l := ⟨fun i x hi => by
  refine ⟨_, _, rfl, by simp, ?_⟩
  have h2 := flatMap_at (cs := byteCells) (size := 1) (fun _ => rfl) l i x hi 0 (by omega)
  rw [Nat.mul_one, Nat.add_zero] at h2
  have hb : (w.alloc (.cells (l.flatMap byteCells).toArray 5 fz)).heap[w.heap.size]? = some (.cells (l.flatMap byteCells).toArray 5 fz) := heap_alloc_new w _
  unfold World.cell?
  rw [hb]
  simp only [Nat.zero_add, List.getElem?_toArray, h2]
  rfl⟩
theorem Rd.frF {w W : World} {F : List Nat} {b o : Nat} {l : List UInt8} (h : Rd w (some ⟨b, o, none⟩) l) (f : Fr F w W) (hb : b ∉ F) : Rd W (some ⟨b, o, none⟩) l := ⟨fun i x hi => by
  obtain ⟨b', off, h1, h2, h3⟩ := h.ats i x hi
  injection h1 with h1
  injection h1 with e1 e2
  subst e1 e2
  exact ⟨b, o, rfl, Nat.lt_of_lt_of_le h2 f.size, (World.cell?_of_block (f.block b h2 hb)).trans h3⟩⟩
theorem packs_rd {w : World} {ps : List (Int × Pack)} (h : (packsA ps).holds w) {q : Int × Pack} (hq : q ∈ ps) : Rd w q.2.A q.2.l ∧ (q.2.A = none → q.2.c = 0) := by
  have h2 : (bytesA q.2.A q.2.c q.2.l).holds w := h _ (List.mem_map.2 ⟨q, hq, rfl⟩)
  refine ⟨listA_rd h2, fun e => ?_⟩
  rw [e] at h2
  exact (listA_none h2).2
def ab : List UInt8 := [97, 98]
set_option maxRecDepth 100000 in
set_option maxHeartbeats 8000000 in
theorem law_awake (w : World) : Calls Try.prog 6 #[] w (fun e w' => e = .returned (.bool true) ∧ Mem w [] w' []) := by
  have O : Mem w [] w [] := Mem.begin
  go_enter Try.func6, Try.ntmps6
  have cs := O.facts
  simp only [factsP, cellsP, roomP, foots_cons, foots_nil, foots_append, foot_pt, ptb, ptb_mapA, foot_mapA, factsP_mapA, foot_bun, List.append_nil, List.nil_append, List.cons_append, List.nodup_cons, List.nodup_nil, List.mem_cons, List.not_mem_nil, List.mem_singleton, List.forall_mem_cons, not_or, not_false_eq_true, and_true, true_and, or_false, false_or, forall_eq_or_imp, forall_eq, implies_true, Nat.zero_add, Nat.reduceAdd, and_assoc, factsP_mapA, ptb_listA, factsP_listA, factsP_packsA, ptb_packsA, netCells, Nat.mul_one] at cs
  go_wp2_with fail
  first | apply Mem.atCall | apply Mem.atCode | apply Mem.atList
  case h => repeat' (first | (with_reducible exact O) | (with_reducible apply Mem.drew) | (with_reducible apply Mem.drewN) | (with_reducible apply Mem.ext) | (with_reducible apply Mem.alloc) | (with_reducible apply Mem.setCell) | (simp only [ptb, ptb_upd, foots_cons, List.mem_cons, World.size_alloc, size_ext, World.size_setCell, true_or, or_true, eq_self_iff_true]))
  case' k =>
    intro w1 O'
    (try clear O)
    have O := O'
    clear O'
    (first | simp only [sel, rst, List.cons_append, List.nil_append, World.size_alloc, size_ext, World.size_setCell, size_setMap, World.size_drew, size_drewN, upd, List.set_cons_zero, List.set_cons_succ, if_true, if_false, reduceIte, not_false_eq_true, ne_lt0, ne_lt1, ne_lt2, ne_lt3, ne_lt4, cs] at O | simp only [sel, rst, List.cons_append, List.nil_append, World.size_alloc, size_ext, World.size_setCell, size_setMap, World.size_drew, size_drewN, upd, List.set_cons_zero, List.set_cons_succ, if_true, if_false, reduceIte, not_false_eq_true, ne_lt0, ne_lt1, ne_lt2, ne_lt3, ne_lt4] at O | skip)
    (try clear cs)
    (try clear v1)
    (try clear v2)
    (try clear v3)
  refine (n_New 2 _ ⟨by omega, by omega⟩).mono ?_
  rintro e w2 ⟨rfl, o⟩
  replace O := O.callp [] o
  clear o
  simp only [put, List.cons_append, List.nil_append] at O
  generalize w1.heap.size = mb at O ⊢
  simp only [netL, netCells, List.append_nil] at O
  have hcv := fun (C : Array Value) (n c : Nat) => Lib.run_convert_bytes_const (P := Try.prog) w2 39 5 C n c Try.underlying39 Try.underlying5
  have cs := O.facts
  simp only [factsP, cellsP, roomP, foots_cons, foots_nil, foots_append, foot_pt, ptb, ptb_mapA, foot_mapA, factsP_mapA, foot_bun, List.append_nil, List.nil_append, List.cons_append, List.nodup_cons, List.nodup_nil, List.mem_cons, List.not_mem_nil, List.mem_singleton, List.forall_mem_cons, not_or, not_false_eq_true, and_true, true_and, or_false, false_or, forall_eq_or_imp, forall_eq, implies_true, Nat.zero_add, Nat.reduceAdd, and_assoc, factsP_mapA, ptb_listA, factsP_listA, factsP_packsA, ptb_packsA, netCells, Nat.mul_one] at cs
  go_wp2_with fail
  have O1 := O.alloc_ (.cells (ab.flatMap byteCells).toArray 5 (2, 3))
  have RN := rd_alloc w2 ab (2, 3)
  have hlt : ∀ b ∈ foots (netL (mb + 1) mb ⟨2, 0, 0, 0, 0, 0, 0, []⟩), b < w2.heap.size := O.lt
  change Calls _ _ _ (w2.alloc (.cells (ab.flatMap byteCells).toArray 5 (2, 3))) _
  generalize w2.alloc (.cells (ab.flatMap byteCells).toArray 5 (2, 3)) = w3 at O1 RN ⊢
  clear O cs
  have O := O1
  clear O1 hcv
  have hpre : Pre w3 (netL (mb + 1) mb ⟨2, 0, 0, 0, 0, 0, 0, []⟩) := O.pre [true, true, true]
  refine (n_Send w3 (mb + 1) mb ⟨2, 0, 0, 0, 0, 0, 0, []⟩ hpre 1 2 (some ⟨w2.heap.size, 0, none⟩) 2 ab (fun W hW => RN.frF hW (fun hb => absurd (hlt _ hb) (by omega))) (by simp) (by simp [ab]) (by simp) (by simp) (by simp) (by simp) (by simp) (fun p => rfl)).mono ?_
  rintro e w4 ⟨A1, c1, rfl, o⟩
  replace O := O.callp [true, true, true] o
  clear o RN hlt hpre
  simp only [netL, netCells, put, List.cons_append, List.nil_append] at O
  have cs := O.facts
  simp only [factsP, cellsP, roomP, foots_cons, foots_nil, foots_append, foot_pt, ptb, ptb_mapA, foot_mapA, factsP_mapA, foot_bun, List.append_nil, List.nil_append, List.cons_append, List.nodup_cons, List.nodup_nil, List.mem_cons, List.not_mem_nil, List.mem_singleton, List.forall_mem_cons, not_or, not_false_eq_true, and_true, true_and, or_false, false_or, forall_eq_or_imp, forall_eq, implies_true, Nat.zero_add, Nat.reduceAdd, and_assoc, factsP_mapA, ptb_listA, factsP_listA, factsP_packsA, ptb_packsA, netCells, Nat.mul_one] at cs
  go_wp2_with fail
  first | apply Mem.atCall | apply Mem.atCode | apply Mem.atList
  case h => repeat' (first | (with_reducible exact O) | (with_reducible apply Mem.drew) | (with_reducible apply Mem.drewN) | (with_reducible apply Mem.ext) | (with_reducible apply Mem.alloc) | (with_reducible apply Mem.setCell) | (simp only [ptb, ptb_upd, foots_cons, List.mem_cons, World.size_alloc, size_ext, World.size_setCell, true_or, or_true, eq_self_iff_true]))
  case' k =>
    intro w5 O'
    (try clear O)
    have O := O'
    clear O'
    (first | simp only [sel, rst, List.cons_append, List.nil_append, World.size_alloc, size_ext, World.size_setCell, size_setMap, World.size_drew, size_drewN, upd, List.set_cons_zero, List.set_cons_succ, if_true, if_false, reduceIte, not_false_eq_true, ne_lt0, ne_lt1, ne_lt2, ne_lt3, ne_lt4, cs] at O | simp only [sel, rst, List.cons_append, List.nil_append, World.size_alloc, size_ext, World.size_setCell, size_setMap, World.size_drew, size_drewN, upd, List.set_cons_zero, List.set_cons_succ, if_true, if_false, reduceIte, not_false_eq_true, ne_lt0, ne_lt1, ne_lt2, ne_lt3, ne_lt4] at O | skip)
    (try clear cs)
    (try clear v1)
    (try clear v2)
    (try clear v3)
  have hpre : Pre w5 (netL (mb + 1) mb ⟨2, 1, 1, 0, 0, 0, 0, [(1, ⟨1, 1, 2, A1, c1, ab⟩)]⟩) := O.pre [true, true, true]
  have hrd := packs_rd (hpre.hold (packsA [(1, ⟨1, 1, 2, A1, c1, ab⟩)]) (by simp [netL])) (q := (1, ⟨1, 1, 2, A1, c1, ab⟩)) (by simp)
  refine (n_Look w5 (mb + 1) mb _ hpre 1 (by omega) (by omega) ⟨1, 1, 2, A1, c1, ab⟩ rfl hrd.1 hrd.2 (by simp [ab])).mono ?_
  rintro e w6 ⟨A2, c2, rfl, o⟩
  replace O := O.callp [] o
  clear o hpre hrd
  simp only [put, List.cons_append, List.nil_append, Pack.val] at O ⊢
  have cs := O.facts
  simp only [factsP, cellsP, roomP, foots_cons, foots_nil, foots_append, foot_pt, ptb, ptb_mapA, foot_mapA, factsP_mapA, foot_bun, List.append_nil, List.nil_append, List.cons_append, List.nodup_cons, List.nodup_nil, List.mem_cons, List.not_mem_nil, List.mem_singleton, List.forall_mem_cons, not_or, not_false_eq_true, and_true, true_and, or_false, false_or, forall_eq_or_imp, forall_eq, implies_true, Nat.zero_add, Nat.reduceAdd, and_assoc, factsP_mapA, ptb_listA, factsP_listA, factsP_packsA, ptb_packsA, netCells, Nat.mul_one] at cs
  go_wp2_with fail
  first | apply Mem.atCall | apply Mem.atCode | apply Mem.atList
  case h => repeat' (first | (with_reducible exact O) | (with_reducible apply Mem.drew) | (with_reducible apply Mem.drewN) | (with_reducible apply Mem.ext) | (with_reducible apply Mem.alloc) | (with_reducible apply Mem.setCell) | (simp only [ptb, ptb_upd, foots_cons, List.mem_cons, World.size_alloc, size_ext, World.size_setCell, true_or, or_true, eq_self_iff_true]))
  case' k =>
    intro w7 O'
    (try clear O)
    have O := O'
    clear O'
    (first | simp only [sel, rst, List.cons_append, List.nil_append, World.size_alloc, size_ext, World.size_setCell, size_setMap, World.size_drew, size_drewN, upd, List.set_cons_zero, List.set_cons_succ, if_true, if_false, reduceIte, not_false_eq_true, ne_lt0, ne_lt1, ne_lt2, ne_lt3, ne_lt4, cs] at O | simp only [sel, rst, List.cons_append, List.nil_append, World.size_alloc, size_ext, World.size_setCell, size_setMap, World.size_drew, size_drewN, upd, List.set_cons_zero, List.set_cons_succ, if_true, if_false, reduceIte, not_false_eq_true, ne_lt0, ne_lt1, ne_lt2, ne_lt3, ne_lt4] at O | skip)
    (try clear cs)
    (try clear v1)
    (try clear v2)
    (try clear v3)
  generalize w6.heap.size = q at O ⊢
  have hpre : Pre w7 (netL (mb + 1) mb ⟨2, 1, 1, 0, 0, 0, 0, [(1, ⟨1, 1, 2, A1, c1, ab⟩)]⟩) := O.pre [false, false, true, true, true]
  refine (n_Count w7 (mb + 1) mb _ hpre).mono ?_
  rintro e w8 ⟨rfl, o⟩
  replace O := O.callp [] o
  clear o hpre
  simp only [put, List.cons_append, List.nil_append] at O ⊢
  have cs := O.facts
  simp only [factsP, cellsP, roomP, foots_cons, foots_nil, foots_append, foot_pt, ptb, ptb_mapA, foot_mapA, factsP_mapA, foot_bun, List.append_nil, List.nil_append, List.cons_append, List.nodup_cons, List.nodup_nil, List.mem_cons, List.not_mem_nil, List.mem_singleton, List.forall_mem_cons, not_or, not_false_eq_true, and_true, true_and, or_false, false_or, forall_eq_or_imp, forall_eq, implies_true, Nat.zero_add, Nat.reduceAdd, and_assoc, factsP_mapA, ptb_listA, factsP_listA, factsP_packsA, ptb_packsA, netCells, Nat.mul_one] at cs
  go_wp2_with fail
  go_ret
  exact ⟨rfl, O.fr0⟩
end Go.Proofs.Ytpgdnifeafmfaaa
