/- WALKS: the document's Accept of an acceptor. -/
import Derived.Test.YtbpanhmpffjmfaaRow10
set_option linter.unusedVariables false
set_option linter.unusedSimpArgs false
namespace Go.Proofs.Ytbpanhmpffjmfaa
open Go.RowKit Go.Tk


set_option maxRecDepth 100000 in
set_option maxHeartbeats 8000000 in
theorem ref_Accept (w : World) (tb : Nat) (most : Int) (A : Option Addr) (c : Nat) (m : Rows10) (i : Inst) (b : Ballot) (s : ByteArray) (h : Pre w (refL tb most A c m)) (hsz : m.length < 4096) (hb : 0 ≤ b.r ∧ 0 ≤ b.n) (hn : (keysOf m).Nodup) :
    Calls Try.prog 23 #[.pointer (some ⟨tb, 0, none⟩), i.val, b.val, .string s] w (fun e w' => e = .returned (.tuple #[(accept10 most m i b s).1.val, .bool (accept10 most m i b s).2.1, .int .i64 (accept10 most m i b s).2.2.1]) ∧ ∃ A' c', Mem w (foots (refL tb most A c m)) w' (refL tb most A' c' (accept10 most m i b s).2.2.2)) := by
  obtain ⟨fp, hfp⟩ : ∃ F, F = foots (refL tb most A c m) := ⟨_, rfl⟩
  have O : Mem w fp w (refL tb most A c m) := by rw [hfp]; exact h
  rw [← hfp]
  have C := Lib.hid (fun W (h : Pre W (refL tb most A c m)) => ref_row W tb most A c m i h (by omega))
  clear hfp h
  have hrow := row_plain most m i b hb hn
  obtain ⟨v, hv⟩ : ∃ v, v = accept10 most m i b s := ⟨_, rfl⟩
  rw [← hv]
  unfold accept10 at hv
  obtain ⟨ix, ibk, irp, iix⟩ := i
  obtain ⟨br, bn⟩ := b
  simp only [Inst.val, Ballot.val, refL] at C ⊢
  simp only [refL] at O
  skip
  rcases hrow with ⟨h1, h2⟩ | ⟨k, ⟨⟨pr, pn⟩, ⟨ai, ⟨ar, an⟩, av⟩⟩, m0, h1, hk, hlen, hmost, hset, hlow, h2⟩
  · rw [h1] at C
    rw [h2] at hv
    simp only [Bool.false_eq_true, if_false] at hv
    subst hv
    clear h1 h2
    go_enter Try.func23, Try.ntmps23
    have cs := O.facts
    simp only [factsP, cellsP, roomP, foots_cons, foots_nil, foots_append, foot_pt, ptb, ptb_mapA, foot_mapA, factsP_mapA, foot_bun, List.append_nil, List.nil_append, List.cons_append, List.nodup_cons, List.nodup_nil, List.mem_cons, List.not_mem_nil, List.mem_singleton, List.forall_mem_cons, not_or, not_false_eq_true, and_true, true_and, or_false, false_or, forall_eq_or_imp, forall_eq, implies_true, Nat.zero_add, Nat.reduceAdd, and_assoc, ptb_listA, factsP_listA, refL, rowCells] at cs
    go_wp2_with fail
    first | apply Mem.atCall | apply Mem.atCode | apply Mem.atList
    case h => repeat' (first | (with_reducible exact O) | (with_reducible apply Mem.drew) | (with_reducible apply Mem.drewN) | (with_reducible apply Mem.ext) | (with_reducible apply Mem.alloc) | (with_reducible apply Mem.setCell) | (simp only [ptb, ptb_upd, foots_cons, List.mem_cons, World.size_alloc, size_ext, World.size_setCell, true_or, or_true, eq_self_iff_true]))
    case' k =>
      intro w1 O'
      (try clear O)
      have O := O'
      clear O'
      (first | simp only [sel, rst, List.cons_append, List.nil_append, World.size_alloc, size_ext, World.size_setCell, size_setMap, World.size_drew, size_drewN, upd, List.set_cons_zero, List.set_cons_succ, if_true, reduceIte, not_false_eq_true, cs] at O | simp only [sel, rst, List.cons_append, List.nil_append, World.size_alloc, size_ext, World.size_setCell, size_setMap, World.size_drew, size_drewN, upd, List.set_cons_zero, List.set_cons_succ, if_true, reduceIte, not_false_eq_true] at O | skip)
      (try clear cs)
      (try clear v1)
      (try clear v2)
      (try clear v3)
    refine (C.out w1 (O.pre [false, false, false, true, true])).mono ?_
    rintro e w2 ⟨rfl, A', c', o⟩
    replace O := O.callp [false, false, false, true, true] o
    clear o
    simp only [put, List.cons_append, List.nil_append] at O
    have cs := O.facts
    simp only [factsP, cellsP, roomP, foots_cons, foots_nil, foots_append, foot_pt, ptb, ptb_mapA, foot_mapA, factsP_mapA, foot_bun, List.append_nil, List.nil_append, List.cons_append, List.nodup_cons, List.nodup_nil, List.mem_cons, List.not_mem_nil, List.mem_singleton, List.forall_mem_cons, not_or, not_false_eq_true, and_true, true_and, or_false, false_or, forall_eq_or_imp, forall_eq, implies_true, Nat.zero_add, Nat.reduceAdd, and_assoc, ptb_listA, factsP_listA, refL, rowCells] at cs
    go_wp2_with fail
    refine bodyPost_ret (v := .tuple #[noB.val, .bool false, .int .i64 101]) (by simp [results, Try.results23, go_sem, cs, Acc.val, Ballot.val, noA, noB]; try rfl) rfl ⟨rfl, A', c', ?_⟩
    apply Mem.to [false, false, false, true, true]
    · repeat' (first | (with_reducible exact O) | (with_reducible apply Mem.drew) | (with_reducible apply Mem.drewN) | (with_reducible apply Mem.ext) | (with_reducible apply Mem.alloc) | (with_reducible apply Mem.setCell) | (simp only [ptb, ptb_upd, foots_cons, List.mem_cons, World.size_alloc, size_ext, World.size_setCell, true_or, or_true, eq_self_iff_true]))
    · first | with_reducible rfl | (simp only [sel, rst, List.cons_append, List.nil_append, World.size_alloc, size_ext, World.size_setCell, size_setMap, World.size_drew, size_drewN, upd, List.set_cons_zero, List.set_cons_succ, if_true, reduceIte, not_false_eq_true, cs]; done) | (simp only [sel, rst, List.cons_append, List.nil_append, World.size_alloc, size_ext, World.size_setCell, size_setMap, World.size_drew, size_drewN, upd, List.set_cons_zero, List.set_cons_succ, if_true, reduceIte, not_false_eq_true]; done) | rfl
  · rw [h1] at C
    simp only at C
    clear h1
    obtain ⟨g, hA⟩ : True ∧ True := ⟨trivial, trivial⟩
    obtain ⟨hle, hhle⟩ : ∃ x, x = less ⟨br, bn⟩ ⟨pr, pn⟩ := ⟨_, rfl⟩
    have LE := Lib.hid hhle
    clear hhle
    go_enter Try.func23, Try.ntmps23
    have cs := O.facts
    simp only [factsP, cellsP, roomP, foots_cons, foots_nil, foots_append, foot_pt, ptb, ptb_mapA, foot_mapA, factsP_mapA, foot_bun, List.append_nil, List.nil_append, List.cons_append, List.nodup_cons, List.nodup_nil, List.mem_cons, List.not_mem_nil, List.mem_singleton, List.forall_mem_cons, not_or, not_false_eq_true, and_true, true_and, or_false, false_or, forall_eq_or_imp, forall_eq, implies_true, Nat.zero_add, Nat.reduceAdd, and_assoc, ptb_listA, factsP_listA, refL, rowCells] at cs
    go_wp2_with fail
    first | apply Mem.atCall | apply Mem.atCode | apply Mem.atList
    case h => repeat' (first | (with_reducible exact O) | (with_reducible apply Mem.drew) | (with_reducible apply Mem.drewN) | (with_reducible apply Mem.ext) | (with_reducible apply Mem.alloc) | (with_reducible apply Mem.setCell) | (simp only [ptb, ptb_upd, foots_cons, List.mem_cons, World.size_alloc, size_ext, World.size_setCell, true_or, or_true, eq_self_iff_true]))
    case' k =>
      intro w1 O'
      (try clear O)
      have O := O'
      clear O'
      (first | simp only [sel, rst, List.cons_append, List.nil_append, World.size_alloc, size_ext, World.size_setCell, size_setMap, World.size_drew, size_drewN, upd, List.set_cons_zero, List.set_cons_succ, if_true, reduceIte, not_false_eq_true, cs] at O | simp only [sel, rst, List.cons_append, List.nil_append, World.size_alloc, size_ext, World.size_setCell, size_setMap, World.size_drew, size_drewN, upd, List.set_cons_zero, List.set_cons_succ, if_true, reduceIte, not_false_eq_true] at O | skip)
      (try clear cs)
      (try clear v1)
      (try clear v2)
      (try clear v3)
    refine (C.out w1 (O.pre [false, false, false, true, true])).mono ?_
    rintro e w2 ⟨rfl, A', c', o⟩
    replace O := O.callp [false, false, false, true, true] o
    clear o
    simp only [put, List.cons_append, List.nil_append] at O
    obtain ⟨g, rfl, _⟩ := listA_get rowCells_len (O.hold (listA 69 10 rowCells A' c' m0) (by simp)) hk
    have hlt : k < m0.length := (List.getElem?_eq_some_iff.1 hk).1
    skip
    have KK := Lib.hid hk
    have HV := Lib.hid hv
    have H2 := Lib.hid h2
    have HS := Lib.hid hset
    have HLW := Lib.hid hlow
    clear hv h2 hset hlow C
    have cs := O.facts
    simp only [factsP, cellsP, roomP, foots_cons, foots_nil, foots_append, foot_pt, ptb, ptb_mapA, foot_mapA, factsP_mapA, foot_bun, List.append_nil, List.nil_append, List.cons_append, List.nodup_cons, List.nodup_nil, List.mem_cons, List.not_mem_nil, List.mem_singleton, List.forall_mem_cons, not_or, not_false_eq_true, and_true, true_and, or_false, false_or, forall_eq_or_imp, forall_eq, implies_true, Nat.zero_add, Nat.reduceAdd, and_assoc, ptb_listA, factsP_listA, refL, rowCells] at cs
    have v1 := (listA_at rowCells_len (O.hold (listA 69 10 rowCells (some ⟨g, 0, none⟩) c' m0) (by simp)) hk)
    simp only [cellsQ, roomP, and_assoc, and_true, true_and, Nat.add_zero, Nat.zero_add, Nat.reduceAdd, factsP, cellsP, roomP, foots_cons, foots_nil, foots_append, foot_pt, ptb, ptb_mapA, foot_mapA, factsP_mapA, foot_bun, List.append_nil, List.nil_append, List.cons_append, List.nodup_cons, List.nodup_nil, List.mem_cons, List.not_mem_nil, List.mem_singleton, List.forall_mem_cons, not_or, not_false_eq_true, and_true, true_and, or_false, false_or, forall_eq_or_imp, forall_eq, implies_true, Nat.zero_add, Nat.reduceAdd, and_assoc, ptb_listA, factsP_listA, refL, rowCells] at v1
    go_wp2_with fail
    apply region_tail_mem 9 (by kernel_rfl) (by kernel_rfl)
    case O => repeat' (first | (with_reducible exact O) | (with_reducible apply Mem.drew) | (with_reducible apply Mem.drewN) | (with_reducible apply Mem.ext) | (with_reducible apply Mem.alloc) | (with_reducible apply Mem.setCell) | (simp only [ptb, ptb_upd, foots_cons, List.mem_cons, World.size_alloc, size_ext, World.size_setCell, true_or, or_true, eq_self_iff_true]))
    case' h =>
      intro w3 O'
      (try clear O)
      have O := O'
      clear O'
      (first | simp only [sel, rst, List.cons_append, List.nil_append, World.size_alloc, size_ext, World.size_setCell, size_setMap, World.size_drew, size_drewN, upd, List.set_cons_zero, List.set_cons_succ, if_true, reduceIte, not_false_eq_true, cs] at O | simp only [sel, rst, List.cons_append, List.nil_append, World.size_alloc, size_ext, World.size_setCell, size_setMap, World.size_drew, size_drewN, upd, List.set_cons_zero, List.set_cons_succ, if_true, reduceIte, not_false_eq_true] at O | skip)
      (try clear cs)
      (try clear v1)
      (try clear v2)
      (try clear v3)
    simp only [List.length_cons, List.length_nil, Nat.reduceAdd, Nat.reduceSub, List.take_succ_cons, List.take_zero, List.drop_succ_cons, List.drop_zero]
    have cs := O.facts
    simp only [factsP, cellsP, roomP, foots_cons, foots_nil, foots_append, foot_pt, ptb, ptb_mapA, foot_mapA, factsP_mapA, foot_bun, List.append_nil, List.nil_append, List.cons_append, List.nodup_cons, List.nodup_nil, List.mem_cons, List.not_mem_nil, List.mem_singleton, List.forall_mem_cons, not_or, not_false_eq_true, and_true, true_and, or_false, false_or, forall_eq_or_imp, forall_eq, implies_true, Nat.zero_add, Nat.reduceAdd, and_assoc, ptb_listA, factsP_listA, refL, rowCells] at cs
    have v1 := (listA_at rowCells_len (O.hold (listA 69 10 rowCells (some ⟨g, 0, none⟩) c' m0) (by simp)) hk)
    simp only [cellsQ, roomP, and_assoc, and_true, true_and, Nat.add_zero, Nat.zero_add, Nat.reduceAdd, factsP, cellsP, roomP, foots_cons, foots_nil, foots_append, foot_pt, ptb, ptb_mapA, foot_mapA, factsP_mapA, foot_bun, List.append_nil, List.nil_append, List.cons_append, List.nodup_cons, List.nodup_nil, List.mem_cons, List.not_mem_nil, List.mem_singleton, List.forall_mem_cons, not_or, not_false_eq_true, and_true, true_and, or_false, false_or, forall_eq_or_imp, forall_eq, implies_true, Nat.zero_add, Nat.reduceAdd, and_assoc, ptb_listA, factsP_listA, refL, rowCells] at v1
    repeat still_step
    refine wpStill_nil ?_
    go_wp2_with fail
    (try clear cs)
    (try clear v1)
    (try clear v2)
    (try clear v3)
    refine (ref_Less ⟨br, bn⟩ ⟨pr, pn⟩ _).mono ?_
    rw [← LE.out]
    rintro e w4 ⟨rfl, o⟩
    replace O := O.callp [] o
    simp only [put, List.nil_append] at O
    clear o
    cases hle
    · have hvv : v = (⟨br, bn⟩, true, 0, m0.set k (⟨ix, ibk, irp, iix⟩, (⟨⟨br, bn⟩, ⟨true, ⟨br, bn⟩, s⟩⟩ : Row))) := by
        have hn1 : (keysOf (m0.set k (⟨ix, ibk, irp, iix⟩, (⟨⟨br, bn⟩, ⟨ai, ⟨ar, an⟩, av⟩⟩ : Row)))).Nodup := by rw [← HS.out]; exact nodup_mset hn _ _
        have hk1 : (m0.set k (⟨ix, ibk, irp, iix⟩, (⟨⟨br, bn⟩, ⟨ai, ⟨ar, an⟩, av⟩⟩ : Row)))[k]? = some (⟨ix, ibk, irp, iix⟩, (⟨⟨br, bn⟩, ⟨ai, ⟨ar, an⟩, av⟩⟩ : Row)) := List.getElem?_set_self hlt
        have e1 := mset_at (v' := ⟨⟨br, bn⟩, ⟨true, ⟨br, bn⟩, s⟩⟩) hn1 hk1
        rw [List.set_set] at e1
        rw [HV.out, H2.out, ← LE.out]
        simp only [Bool.false_eq_true, if_false, if_true]
        rw [← e1]
      subst hvv
      have cs := O.facts
      simp only [factsP, cellsP, roomP, foots_cons, foots_nil, foots_append, foot_pt, ptb, ptb_mapA, foot_mapA, factsP_mapA, foot_bun, List.append_nil, List.nil_append, List.cons_append, List.nodup_cons, List.nodup_nil, List.mem_cons, List.not_mem_nil, List.mem_singleton, List.forall_mem_cons, not_or, not_false_eq_true, and_true, true_and, or_false, false_or, forall_eq_or_imp, forall_eq, implies_true, Nat.zero_add, Nat.reduceAdd, and_assoc, ptb_listA, factsP_listA, refL, rowCells] at cs
      have v1 := (listA_at rowCells_len (O.hold (listA 69 10 rowCells (some ⟨g, 0, none⟩) c' m0) (by simp)) hk)
      simp only [cellsQ, roomP, and_assoc, and_true, true_and, Nat.add_zero, Nat.zero_add, Nat.reduceAdd, factsP, cellsP, roomP, foots_cons, foots_nil, foots_append, foot_pt, ptb, ptb_mapA, foot_mapA, factsP_mapA, foot_bun, List.append_nil, List.nil_append, List.cons_append, List.nodup_cons, List.nodup_nil, List.mem_cons, List.not_mem_nil, List.mem_singleton, List.forall_mem_cons, not_or, not_false_eq_true, and_true, true_and, or_false, false_or, forall_eq_or_imp, forall_eq, implies_true, Nat.zero_add, Nat.reduceAdd, and_assoc, ptb_listA, factsP_listA, refL, rowCells] at v1
      go_wp2_with fail
      apply region_last_mem (by kernel_rfl) (by kernel_rfl)
      case O => repeat' (first | (with_reducible exact O) | (with_reducible apply Mem.drew) | (with_reducible apply Mem.drewN) | (with_reducible apply Mem.ext) | (with_reducible apply Mem.alloc) | (with_reducible apply Mem.setCell) | (simp only [ptb, ptb_upd, foots_cons, List.mem_cons, World.size_alloc, size_ext, World.size_setCell, true_or, or_true, eq_self_iff_true]))
      case' h =>
        intro w5 O'
        (try clear O)
        have O := O'
        clear O'
        (first | simp only [sel, rst, List.cons_append, List.nil_append, World.size_alloc, size_ext, World.size_setCell, size_setMap, World.size_drew, size_drewN, upd, List.set_cons_zero, List.set_cons_succ, if_true, reduceIte, not_false_eq_true, cs] at O | simp only [sel, rst, List.cons_append, List.nil_append, World.size_alloc, size_ext, World.size_setCell, size_setMap, World.size_drew, size_drewN, upd, List.set_cons_zero, List.set_cons_succ, if_true, reduceIte, not_false_eq_true] at O | skip)
        (try clear cs)
        (try clear v1)
        (try clear v2)
        (try clear v3)
      simp only [List.length_cons, List.length_nil, Nat.reduceAdd, Nat.reduceSub, List.take_succ_cons, List.take_zero, List.drop_succ_cons, List.drop_zero]
      have cs := O.facts
      simp only [factsP, cellsP, roomP, foots_cons, foots_nil, foots_append, foot_pt, ptb, ptb_mapA, foot_mapA, factsP_mapA, foot_bun, List.append_nil, List.nil_append, List.cons_append, List.nodup_cons, List.nodup_nil, List.mem_cons, List.not_mem_nil, List.mem_singleton, List.forall_mem_cons, not_or, not_false_eq_true, and_true, true_and, or_false, false_or, forall_eq_or_imp, forall_eq, implies_true, Nat.zero_add, Nat.reduceAdd, and_assoc, ptb_listA, factsP_listA, refL, rowCells] at cs
      have v1 := (listA_at rowCells_len (O.hold (listA 69 10 rowCells (some ⟨g, 0, none⟩) c' m0) (by simp)) hk)
      simp only [cellsQ, roomP, and_assoc, and_true, true_and, Nat.add_zero, Nat.zero_add, Nat.reduceAdd, factsP, cellsP, roomP, foots_cons, foots_nil, foots_append, foot_pt, ptb, ptb_mapA, foot_mapA, factsP_mapA, foot_bun, List.append_nil, List.nil_append, List.cons_append, List.nodup_cons, List.nodup_nil, List.mem_cons, List.not_mem_nil, List.mem_singleton, List.forall_mem_cons, not_or, not_false_eq_true, and_true, true_and, or_false, false_or, forall_eq_or_imp, forall_eq, implies_true, Nat.zero_add, Nat.reduceAdd, and_assoc, ptb_listA, factsP_listA, refL, rowCells] at v1
      repeat still_step
      refine wpStill_nil ?_
      go_wp2_with fail
      (try clear cs)
      (try clear v1)
      (try clear v2)
      (try clear v3)
      have O2 := (O.front1 [false, false, false, false, true] rfl).listSet (a' := (⟨ix, ibk, irp, iix⟩, (⟨⟨br, pn⟩, ⟨ai, ⟨ar, an⟩, av⟩⟩ : Row))) (j := 4) (v := .int .u32 br) rowCells_len KK.out (by omega) rfl
      have O3 := O2.listSet (a' := (⟨ix, ibk, irp, iix⟩, (⟨⟨br, bn⟩, ⟨ai, ⟨ar, an⟩, av⟩⟩ : Row))) (j := 5) (v := .int .u8 bn) rowCells_len (List.getElem?_set_self (by simpa using hlt)) (by omega) rfl
      have OO := O3.unfront
      simp only [put, List.cons_append, List.nil_append, List.set_set] at OO
      clear O2 O3 O
      have O := OO
      clear OO
      have hls : (m0.set k (⟨ix, ibk, irp, iix⟩, (⟨⟨br, bn⟩, ⟨ai, ⟨ar, an⟩, av⟩⟩ : Row))).length = m0.length := by simp
      rw [← hls] at O hlt
      have KS : Hid ((m0.set k (⟨ix, ibk, irp, iix⟩, (⟨⟨br, bn⟩, ⟨ai, ⟨ar, an⟩, av⟩⟩ : Row)))[k]? = some (⟨ix, ibk, irp, iix⟩, (⟨⟨br, bn⟩, ⟨ai, ⟨ar, an⟩, av⟩⟩ : Row))) := Lib.hid (List.getElem?_set_self (by simpa using hlt))
      clear hls
      obtain ⟨m1, hm1⟩ : ∃ x, x = m0.set k (⟨ix, ibk, irp, iix⟩, (⟨⟨br, bn⟩, ⟨ai, ⟨ar, an⟩, av⟩⟩ : Row)) := ⟨_, rfl⟩
      rw [← hm1] at O hlt KS
      have HM := Lib.hid hm1
      clear hm1
      skip
      apply region_last_mem (by kernel_rfl) (by kernel_rfl)
      case O => repeat' (first | (with_reducible exact O) | (with_reducible apply Mem.drew) | (with_reducible apply Mem.drewN) | (with_reducible apply Mem.ext) | (with_reducible apply Mem.alloc) | (with_reducible apply Mem.setCell) | (simp only [ptb, ptb_upd, foots_cons, List.mem_cons, World.size_alloc, size_ext, World.size_setCell, true_or, or_true, eq_self_iff_true]))
      case' h =>
        intro w6 O'
        (try clear O)
        have O := O'
        clear O'
        (first | simp only [sel, rst, List.cons_append, List.nil_append, World.size_alloc, size_ext, World.size_setCell, size_setMap, World.size_drew, size_drewN, upd, List.set_cons_zero, List.set_cons_succ, if_true, reduceIte, not_false_eq_true, cs] at O | simp only [sel, rst, List.cons_append, List.nil_append, World.size_alloc, size_ext, World.size_setCell, size_setMap, World.size_drew, size_drewN, upd, List.set_cons_zero, List.set_cons_succ, if_true, reduceIte, not_false_eq_true] at O | skip)
        (try clear cs)
        (try clear v1)
        (try clear v2)
        (try clear v3)
      simp only [List.length_cons, List.length_nil, Nat.reduceAdd, Nat.reduceSub, List.take_succ_cons, List.take_zero, List.drop_succ_cons, List.drop_zero]
      have cs := O.facts
      simp only [factsP, cellsP, roomP, foots_cons, foots_nil, foots_append, foot_pt, ptb, ptb_mapA, foot_mapA, factsP_mapA, foot_bun, List.append_nil, List.nil_append, List.cons_append, List.nodup_cons, List.nodup_nil, List.mem_cons, List.not_mem_nil, List.mem_singleton, List.forall_mem_cons, not_or, not_false_eq_true, and_true, true_and, or_false, false_or, forall_eq_or_imp, forall_eq, implies_true, Nat.zero_add, Nat.reduceAdd, and_assoc, ptb_listA, factsP_listA, refL, rowCells] at cs
      have v1 := (listA_at rowCells_len (O.hold (listA 69 10 rowCells (some ⟨g, 0, none⟩) c' m1) (by simp [sel])) KS.out)
      simp only [cellsQ, roomP, and_assoc, and_true, true_and, Nat.add_zero, Nat.zero_add, Nat.reduceAdd, factsP, cellsP, roomP, foots_cons, foots_nil, foots_append, foot_pt, ptb, ptb_mapA, foot_mapA, factsP_mapA, foot_bun, List.append_nil, List.nil_append, List.cons_append, List.nodup_cons, List.nodup_nil, List.mem_cons, List.not_mem_nil, List.mem_singleton, List.forall_mem_cons, not_or, not_false_eq_true, and_true, true_and, or_false, false_or, forall_eq_or_imp, forall_eq, implies_true, Nat.zero_add, Nat.reduceAdd, and_assoc, ptb_listA, factsP_listA, refL, rowCells] at v1
      repeat still_step
      refine wpStill_nil ?_
      go_upto_region 9 with fail
      (try clear cs)
      (try clear v1)
      (try clear v2)
      (try clear v3)
      have O2 := (O.front1 [false, false, false, false, true] rfl).listSet (a' := (⟨ix, ibk, irp, iix⟩, (⟨⟨br, bn⟩, ⟨true, ⟨ar, an⟩, av⟩⟩ : Row))) (j := 6) (v := .bool true) rowCells_len KS.out (by omega) rfl
      have O3 := O2.listSet (a' := (⟨ix, ibk, irp, iix⟩, (⟨⟨br, bn⟩, ⟨true, ⟨br, an⟩, av⟩⟩ : Row))) (j := 7) (v := .int .u32 br) rowCells_len (List.getElem?_set_self (by simpa using hlt)) (by omega) rfl
      have O4 := O3.listSet (a' := (⟨ix, ibk, irp, iix⟩, (⟨⟨br, bn⟩, ⟨true, ⟨br, bn⟩, av⟩⟩ : Row))) (j := 8) (v := .int .u8 bn) rowCells_len (List.getElem?_set_self (by simpa using hlt)) (by omega) rfl
      have O5 := O4.listSet (a' := (⟨ix, ibk, irp, iix⟩, (⟨⟨br, bn⟩, ⟨true, ⟨br, bn⟩, s⟩⟩ : Row))) (j := 9) (v := .string s) rowCells_len (List.getElem?_set_self (by simpa using hlt)) (by omega) rfl
      have OO := O5.unfront
      simp only [put, List.cons_append, List.nil_append, List.set_set] at OO
      clear O2 O3 O4 O5 O
      have O := OO
      clear OO
      skip
      first | apply Mem.atCall | apply Mem.atCode | apply Mem.atList
      case h => repeat' (first | (with_reducible exact O) | (with_reducible apply Mem.drew) | (with_reducible apply Mem.drewN) | (with_reducible apply Mem.ext) | (with_reducible apply Mem.alloc) | (with_reducible apply Mem.setCell) | (simp only [ptb, ptb_upd, foots_cons, List.mem_cons, World.size_alloc, size_ext, World.size_setCell, true_or, or_true, eq_self_iff_true]))
      case' k =>
        intro w7 O'
        (try clear O)
        have O := O'
        clear O'
        (first | simp only [sel, rst, List.cons_append, List.nil_append, World.size_alloc, size_ext, World.size_setCell, size_setMap, World.size_drew, size_drewN, upd, List.set_cons_zero, List.set_cons_succ, if_true, reduceIte, not_false_eq_true, cs] at O | simp only [sel, rst, List.cons_append, List.nil_append, World.size_alloc, size_ext, World.size_setCell, size_setMap, World.size_drew, size_drewN, upd, List.set_cons_zero, List.set_cons_succ, if_true, reduceIte, not_false_eq_true] at O | skip)
        (try clear cs)
        (try clear v1)
        (try clear v2)
        (try clear v3)
      have cs := O.facts
      simp only [factsP, cellsP, roomP, foots_cons, foots_nil, foots_append, foot_pt, ptb, ptb_mapA, foot_mapA, factsP_mapA, foot_bun, List.append_nil, List.nil_append, List.cons_append, List.nodup_cons, List.nodup_nil, List.mem_cons, List.not_mem_nil, List.mem_singleton, List.forall_mem_cons, not_or, not_false_eq_true, and_true, true_and, or_false, false_or, forall_eq_or_imp, forall_eq, implies_true, Nat.zero_add, Nat.reduceAdd, and_assoc, ptb_listA, factsP_listA, refL, rowCells] at cs
      go_wp2_with fail
      refine bodyPost_ret (v := .tuple #[.agg #[.int .u32 br, .int .u8 bn], .bool true, .int .i64 0]) (by simp [results, Try.results23, go_sem, cs]; try rfl) rfl ⟨rfl, some ⟨g, 0, none⟩, c', ?_⟩
      have hm1 := HM.out
      subst hm1
      simp only [List.length_set, List.set_set] at O ⊢
      apply Mem.to [false, false, false, true, true]
      · repeat' (first | (with_reducible exact O) | (with_reducible apply Mem.drew) | (with_reducible apply Mem.drewN) | (with_reducible apply Mem.ext) | (with_reducible apply Mem.alloc) | (with_reducible apply Mem.setCell) | (simp only [ptb, ptb_upd, foots_cons, List.mem_cons, World.size_alloc, size_ext, World.size_setCell, true_or, or_true, eq_self_iff_true]))
      · first | with_reducible rfl | (simp only [sel, rst, List.cons_append, List.nil_append, World.size_alloc, size_ext, World.size_setCell, size_setMap, World.size_drew, size_drewN, upd, List.set_cons_zero, List.set_cons_succ, if_true, reduceIte, not_false_eq_true, cs]; done) | (simp only [sel, rst, List.cons_append, List.nil_append, World.size_alloc, size_ext, World.size_setCell, size_setMap, World.size_drew, size_drewN, upd, List.set_cons_zero, List.set_cons_succ, if_true, reduceIte, not_false_eq_true]; done) | rfl
    · have hm0 : m0 = m := HLW.out LE.out.symm
      subst hm0
      have hvv : v = (⟨pr, pn⟩, false, 0, m0) := by
        rw [HV.out, H2.out, ← LE.out]
        rfl
      subst hvv
      skip
      have cs := O.facts
      simp only [factsP, cellsP, roomP, foots_cons, foots_nil, foots_append, foot_pt, ptb, ptb_mapA, foot_mapA, factsP_mapA, foot_bun, List.append_nil, List.nil_append, List.cons_append, List.nodup_cons, List.nodup_nil, List.mem_cons, List.not_mem_nil, List.mem_singleton, List.forall_mem_cons, not_or, not_false_eq_true, and_true, true_and, or_false, false_or, forall_eq_or_imp, forall_eq, implies_true, Nat.zero_add, Nat.reduceAdd, and_assoc, ptb_listA, factsP_listA, refL, rowCells] at cs
      have v1 := (listA_at rowCells_len (O.hold (listA 69 10 rowCells (some ⟨g, 0, none⟩) c' m0) (by simp [sel])) KK.out)
      simp only [cellsQ, roomP, and_assoc, and_true, true_and, Nat.add_zero, Nat.zero_add, Nat.reduceAdd, factsP, cellsP, roomP, foots_cons, foots_nil, foots_append, foot_pt, ptb, ptb_mapA, foot_mapA, factsP_mapA, foot_bun, List.append_nil, List.nil_append, List.cons_append, List.nodup_cons, List.nodup_nil, List.mem_cons, List.not_mem_nil, List.mem_singleton, List.forall_mem_cons, not_or, not_false_eq_true, and_true, true_and, or_false, false_or, forall_eq_or_imp, forall_eq, implies_true, Nat.zero_add, Nat.reduceAdd, and_assoc, ptb_listA, factsP_listA, refL, rowCells] at v1
      go_wp2_with fail
      refine bodyPost_ret (v := .tuple #[.agg #[.int .u32 pr, .int .u8 pn], .bool false, .int .i64 0]) (by simp [results, Try.results23, go_sem, cs]; try rfl) rfl ⟨rfl, some ⟨g, 0, none⟩, c', ?_⟩
      apply Mem.to [false, false, false, true, true]
      · repeat' (first | (with_reducible exact O) | (with_reducible apply Mem.drew) | (with_reducible apply Mem.drewN) | (with_reducible apply Mem.ext) | (with_reducible apply Mem.alloc) | (with_reducible apply Mem.setCell) | (simp only [ptb, ptb_upd, foots_cons, List.mem_cons, World.size_alloc, size_ext, World.size_setCell, true_or, or_true, eq_self_iff_true]))
      · first | with_reducible rfl | (simp only [sel, rst, List.cons_append, List.nil_append, World.size_alloc, size_ext, World.size_setCell, size_setMap, World.size_drew, size_drewN, upd, List.set_cons_zero, List.set_cons_succ, if_true, reduceIte, not_false_eq_true, cs]; done) | (simp only [sel, rst, List.cons_append, List.nil_append, World.size_alloc, size_ext, World.size_setCell, size_setMap, World.size_drew, size_drewN, upd, List.set_cons_zero, List.set_cons_succ, if_true, reduceIte, not_false_eq_true]; done) | rfl
end Go.Proofs.Ytbpanhmpffjmfaa
