/- WALKS: DetectPlays: the waits of both; the law. -/
import Derived.Test.YtobiodbdnpcanaaPlays09
set_option linter.unusedVariables false
set_option linter.unusedSimpArgs false
namespace Go.Proofs.Ytobiodbdnpcanaa
open Go.RowKit Go.WideShapes Go.ChangeShapes Go.Tk
set_option maxRecDepth 100000 in
set_option maxHeartbeats 16000000 in
theorem t_waits (w : World) (tb db mb rb : Nat) (g : Int) (m r : List (Int × Peer)) (A : Option Addr) (c : Nat) (now : Int) (h : Pre w (twL tb db mb rb g m r A c now)) (R : Rel m r) :
    Calls Try.prog 14 #[.pointer (some ⟨tb, 0, none⟩)] w (fun e w' => e = .returned (.bool true) ∧ Mem w [] w' []) := by
  have O : Mem w [] w [] := Mem.begin
  have CP := Lib.hid (fun W (hW : Pre W (detL db mb g m)) => d_Peers W db mb g m hW (Nat.le_trans R.size (by omega)))
  rw [R.sorted] at CP
  have CW := Lib.hid (fun W (hW : Pre W (detL db mb g m)) (id : Int) (p : Peer) (hp : mget m id = some p) => d_Wait W db mb g m hW id (R.keyOk _ (mget_mem hp)) p hp (R.ok _ (mget_mem hp)))
  have CN := Lib.hid (fun W (hW : Pre W (detL db mb g m)) => d_Wait_none W db mb g m hW 300 (okInt ⟨by omega, by omega⟩) (by
    rw [mget_none]
    intro hk
    have := R.key _ hk
    omega))
  have hlen : (keysOf r).length = r.length := by simp [keysOf]
  have hr12 : r.length ≤ 12 := by rw [R.len]; exact R.size
  have HL := Lib.hid hlen
  have H := Lib.hid h
  have RR := Lib.hid R
  clear h R hlen
  simp only [twL] at H
  simp only [detL] at CP CW CN
  skip
  go_enter Try.func14, Try.ntmps14
  have cs := O.facts
  simp only [factsP, cellsP, roomP, foots_cons, foots_nil, foots_append, foot_pt, ptb, ptb_mapA, foot_mapA, factsP_mapA, foot_bun, List.append_nil, List.nil_append, List.cons_append, List.nodup_cons, List.nodup_nil, List.mem_cons, List.not_mem_nil, List.mem_singleton, List.forall_mem_cons, not_or, not_false_eq_true, and_true, true_and, or_false, false_or, forall_eq_or_imp, forall_eq, implies_true, Nat.zero_add, Nat.reduceAdd, and_assoc, factsP_mapA, ptb_mapA, ptb_listA, factsP_listA, Nat.mul_one, refCells, intCells, changeCells] at cs
  have v1 := (H.out.view O.fr).facts
  try simp only [cellsQ, roomP, and_assoc, and_true, true_and, Nat.add_zero, Nat.zero_add, Nat.reduceAdd, factsP, cellsP, roomP, foots_cons, foots_nil, foots_append, foot_pt, ptb, ptb_mapA, foot_mapA, factsP_mapA, foot_bun, List.append_nil, List.nil_append, List.cons_append, List.nodup_cons, List.nodup_nil, List.mem_cons, List.not_mem_nil, List.mem_singleton, List.forall_mem_cons, not_or, not_false_eq_true, and_true, true_and, or_false, false_or, forall_eq_or_imp, forall_eq, implies_true, Nat.zero_add, Nat.reduceAdd, and_assoc, factsP_mapA, ptb_mapA, ptb_listA, factsP_listA, Nat.mul_one, refCells, intCells, changeCells] at v1
  go_wp2_with fail
  first | apply Mem.atCall | apply Mem.atCode | apply Mem.atList
  case h => repeat' (first | (with_reducible exact O) | (with_reducible apply Mem.drew) | (with_reducible apply Mem.drewN) | (with_reducible apply Mem.ext) | (with_reducible apply Mem.alloc) | (with_reducible apply Mem.setCell) | (simp only [ptb, ptb_upd, foots_cons, List.mem_cons, World.size_alloc, size_ext, World.size_setCell, true_or, or_true, eq_self_iff_true, ptb_mapA, ptb_listA]))
  case' k =>
    intro w1 O'
    (try clear O)
    have O := O'
    clear O'
    (first | simp only [sel, rst, List.cons_append, List.nil_append, World.size_alloc, size_ext, World.size_setCell, size_setMap, World.size_drew, size_drewN, upd, List.set_cons_zero, List.set_cons_succ, if_true, if_false, reduceIte, not_false_eq_true, ne_lt0, ne_lt1, ne_lt2, ne_lt3, ne_lt4, cs] at O | simp only [sel, rst, List.cons_append, List.nil_append, World.size_alloc, size_ext, World.size_setCell, size_setMap, World.size_drew, size_drewN, upd, List.set_cons_zero, List.set_cons_succ, if_true, if_false, reduceIte, not_false_eq_true, ne_lt0, ne_lt1, ne_lt2, ne_lt3, ne_lt4] at O | skip)
    (try clear cs)
    (try clear v1)
    (try clear v2)
    (try clear v3)
  refine (CP.out _ ((H.out.view O.fr).pre [false, true, true])).mono ?_
  rintro e w2 ⟨A1, c1, rfl, o⟩
  replace O := O.callp [] o
  clear o
  simp only [put, List.cons_append, List.nil_append] at O
  rw [HL.out]
  obtain ⟨KS, hK⟩ : ∃ KS, keysOf r = KS := ⟨_, rfl⟩
  rw [hK] at O HL
  have HK := Lib.hid hK
  clear hK
  have hKl : KS.length = r.length := HL.out
  have cs := O.facts
  simp only [factsP, cellsP, roomP, foots_cons, foots_nil, foots_append, foot_pt, ptb, ptb_mapA, foot_mapA, factsP_mapA, foot_bun, List.append_nil, List.nil_append, List.cons_append, List.nodup_cons, List.nodup_nil, List.mem_cons, List.not_mem_nil, List.mem_singleton, List.forall_mem_cons, not_or, not_false_eq_true, and_true, true_and, or_false, false_or, forall_eq_or_imp, forall_eq, implies_true, Nat.zero_add, Nat.reduceAdd, and_assoc, factsP_mapA, ptb_mapA, ptb_listA, factsP_listA, Nat.mul_one, refCells, intCells, changeCells] at cs
  have v1 := (H.out.view O.fr).facts
  try simp only [cellsQ, roomP, and_assoc, and_true, true_and, Nat.add_zero, Nat.zero_add, Nat.reduceAdd, factsP, cellsP, roomP, foots_cons, foots_nil, foots_append, foot_pt, ptb, ptb_mapA, foot_mapA, factsP_mapA, foot_bun, List.append_nil, List.nil_append, List.cons_append, List.nodup_cons, List.nodup_nil, List.mem_cons, List.not_mem_nil, List.mem_singleton, List.forall_mem_cons, not_or, not_false_eq_true, and_true, true_and, or_false, false_or, forall_eq_or_imp, forall_eq, implies_true, Nat.zero_add, Nat.reduceAdd, and_assoc, factsP_mapA, ptb_mapA, ptb_listA, factsP_listA, Nat.mul_one, refCells, intCells, changeCells] at v1
  go_wp2_with fail
  clear cs v1
  go_loopw [4] (fun s wr => ∃ k : Nat, k ≤ r.length ∧ s = .int .i64 k ∧ Mem w [] wr [listA 3 1 intCells A1 c1 KS]) (fun s _ => r.length - (intOf s).toNat)
  case atStart => exact ⟨0, by omega, rfl, O⟩
  case round =>
    clear O
    obtain ⟨k, hk, rfl, O⟩ := hrel
    by_cases hlt : k < r.length
    · have hlti : (k : Int) < r.length := by omega
      obtain ⟨⟨qi, p⟩, hq⟩ : ∃ q, r[k]? = some q := ⟨_, List.getElem?_eq_getElem hlt⟩
      have hq2 : KS[k]? = some qi := by rw [← HK.out]; simp [keysOf, hq]
      have hpo : p.ok := RR.out.okr _ (List.mem_of_getElem? hq)
      have hgm : mget m qi = some p := RR.out.getr (q := (qi, p)) (List.mem_of_getElem? hq)
      have CB := Lib.hid (fun W => r_Wait qi p hpo W)
      have CQ := Lib.hid (fun W hW => CW.out W hW qi p hgm)
      obtain ⟨ga, rfl, _⟩ := listA_get (cs := intCells) (fun _ => rfl) (O.hold (listA 3 1 intCells A1 c1 KS) (by simp)) hq2
      obtain ⟨gb, rfl, _⟩ := listA_get refLen (H.out.hold (listA 66 5 refCells A c r) (by simp)) hq
      have HQ := Lib.hid hq
      have HQ2 := Lib.hid hq2
      clear hq hq2 hpo hgm
      generalize waitP p = wt at *
      obtain ⟨a, b, cc, d⟩ := p
      simp only [refVal] at CB
      skip
      have cs := O.facts
      simp only [factsP, cellsP, roomP, foots_cons, foots_nil, foots_append, foot_pt, ptb, ptb_mapA, foot_mapA, factsP_mapA, foot_bun, List.append_nil, List.nil_append, List.cons_append, List.nodup_cons, List.nodup_nil, List.mem_cons, List.not_mem_nil, List.mem_singleton, List.forall_mem_cons, not_or, not_false_eq_true, and_true, true_and, or_false, false_or, forall_eq_or_imp, forall_eq, implies_true, Nat.zero_add, Nat.reduceAdd, and_assoc, factsP_mapA, ptb_mapA, ptb_listA, factsP_listA, Nat.mul_one, refCells, intCells, changeCells] at cs
      have v1 := (H.out.view O.fr).facts
      try simp only [cellsQ, roomP, and_assoc, and_true, true_and, Nat.add_zero, Nat.zero_add, Nat.reduceAdd, factsP, cellsP, roomP, foots_cons, foots_nil, foots_append, foot_pt, ptb, ptb_mapA, foot_mapA, factsP_mapA, foot_bun, List.append_nil, List.nil_append, List.cons_append, List.nodup_cons, List.nodup_nil, List.mem_cons, List.not_mem_nil, List.mem_singleton, List.forall_mem_cons, not_or, not_false_eq_true, and_true, true_and, or_false, false_or, forall_eq_or_imp, forall_eq, implies_true, Nat.zero_add, Nat.reduceAdd, and_assoc, factsP_mapA, ptb_mapA, ptb_listA, factsP_listA, Nat.mul_one, refCells, intCells, changeCells] at v1
      have v2 := (listA_at (cs := intCells) (fun _ => rfl) (O.hold (listA 3 1 intCells (some ⟨ga, 0, none⟩) c1 KS) (List.mem_cons_self ..)) HQ2.out)
      try simp only [cellsQ, roomP, and_assoc, and_true, true_and, Nat.add_zero, Nat.zero_add, Nat.reduceAdd, factsP, cellsP, roomP, foots_cons, foots_nil, foots_append, foot_pt, ptb, ptb_mapA, foot_mapA, factsP_mapA, foot_bun, List.append_nil, List.nil_append, List.cons_append, List.nodup_cons, List.nodup_nil, List.mem_cons, List.not_mem_nil, List.mem_singleton, List.forall_mem_cons, not_or, not_false_eq_true, and_true, true_and, or_false, false_or, forall_eq_or_imp, forall_eq, implies_true, Nat.zero_add, Nat.reduceAdd, and_assoc, factsP_mapA, ptb_mapA, ptb_listA, factsP_listA, Nat.mul_one, refCells, intCells, changeCells] at v2
      have v3 := (listA_at refLen ((H.out.view O.fr).hold (listA 66 5 refCells (some ⟨gb, 0, none⟩) c r) (by simp)) HQ.out)
      try simp only [cellsQ, roomP, and_assoc, and_true, true_and, Nat.add_zero, Nat.zero_add, Nat.reduceAdd, factsP, cellsP, roomP, foots_cons, foots_nil, foots_append, foot_pt, ptb, ptb_mapA, foot_mapA, factsP_mapA, foot_bun, List.append_nil, List.nil_append, List.cons_append, List.nodup_cons, List.nodup_nil, List.mem_cons, List.not_mem_nil, List.mem_singleton, List.forall_mem_cons, not_or, not_false_eq_true, and_true, true_and, or_false, false_or, forall_eq_or_imp, forall_eq, implies_true, Nat.zero_add, Nat.reduceAdd, and_assoc, factsP_mapA, ptb_mapA, ptb_listA, factsP_listA, Nat.mul_one, refCells, intCells, changeCells] at v3
      go_upto_region 7 with fail
      apply region_held_mem [true] (by kernel_rfl)
      case O => repeat' (first | (with_reducible exact O) | (with_reducible apply Mem.drew) | (with_reducible apply Mem.drewN) | (with_reducible apply Mem.ext) | (with_reducible apply Mem.alloc) | (with_reducible apply Mem.setCell) | (simp only [ptb, ptb_upd, foots_cons, List.mem_cons, World.size_alloc, size_ext, World.size_setCell, true_or, or_true, eq_self_iff_true, ptb_mapA, ptb_listA]))
      case' h =>
        intro wr1 O'
        (try clear O)
        have O := O'
        clear O'
        (first | simp only [sel, rst, List.cons_append, List.nil_append, World.size_alloc, size_ext, World.size_setCell, size_setMap, World.size_drew, size_drewN, upd, List.set_cons_zero, List.set_cons_succ, if_true, if_false, reduceIte, not_false_eq_true, ne_lt0, ne_lt1, ne_lt2, ne_lt3, ne_lt4, cs] at O | simp only [sel, rst, List.cons_append, List.nil_append, World.size_alloc, size_ext, World.size_setCell, size_setMap, World.size_drew, size_drewN, upd, List.set_cons_zero, List.set_cons_succ, if_true, if_false, reduceIte, not_false_eq_true, ne_lt0, ne_lt1, ne_lt2, ne_lt3, ne_lt4] at O | skip)
        (try clear cs)
        (try clear v1)
        (try clear v2)
        (try clear v3)
      refine takeH (i := 0) (v := ?v1_1) rfl (by kernel_rfl) (by kernel_rfl) (by kernel_rfl) (fun _ _ _ h => h) (by rfl) ?y1_1 (O.sel [true]) ?r1_1
      case y1_1 =>
        intro WW hSw
        (go_simp) <;> (with_reducible rfl)
      case' r1_1 =>
        try simp only [Act.put, List.setIfInBounds_toArray, List.set_cons_zero, List.set_cons_succ]
      refine takeH (i := 1) (v := ?v1_2) rfl (by kernel_rfl) (by kernel_rfl) (by kernel_rfl) (fun _ _ _ h => h) (by rfl) ?y1_2 (O.sel [true]) ?r1_2
      case y1_2 =>
        intro WW hSw
        (go_simp) <;> (with_reducible rfl)
      case' r1_2 =>
        try simp only [Act.put, List.setIfInBounds_toArray, List.set_cons_zero, List.set_cons_succ]
      refine takeH (i := 2) (v := ?v1_3) rfl (by kernel_rfl) (by kernel_rfl) (by kernel_rfl) (fun _ _ _ h => h) (by rfl) ?y1_3 (O.sel [true]) ?r1_3
      case y1_3 =>
        intro WW hSw
        (go_simp) <;> (with_reducible rfl)
      case' r1_3 =>
        try simp only [Act.put, List.setIfInBounds_toArray, List.set_cons_zero, List.set_cons_succ]
      refine takeH (i := 3) (v := ?v1_4) rfl (by kernel_rfl) (by kernel_rfl) (by kernel_rfl) (fun _ _ _ h => h) (by rfl) ?y1_4 (O.sel [true]) ?r1_4
      case y1_4 =>
        intro WW hSw
        replace hSw : Mem _ _ WW _ := hSw
        have cs := hSw.facts
        simp only [sel, factsP, cellsP, roomP, foots_cons, foots_nil, foots_append, foot_pt, ptb, ptb_mapA, foot_mapA, factsP_mapA, foot_bun, List.append_nil, List.nil_append, List.cons_append, List.nodup_cons, List.nodup_nil, List.mem_cons, List.not_mem_nil, List.mem_singleton, List.forall_mem_cons, not_or, not_false_eq_true, and_true, true_and, or_false, false_or, forall_eq_or_imp, forall_eq, implies_true, Nat.zero_add, Nat.reduceAdd, and_assoc, factsP_mapA, ptb_mapA, ptb_listA, factsP_listA, Nat.mul_one, refCells, intCells, changeCells] at cs
        have v1 := (H.out.view hSw.fr).facts
        try simp only [cellsQ, roomP, and_assoc, and_true, true_and, Nat.add_zero, Nat.zero_add, Nat.reduceAdd, factsP, cellsP, roomP, foots_cons, foots_nil, foots_append, foot_pt, ptb, ptb_mapA, foot_mapA, factsP_mapA, foot_bun, List.append_nil, List.nil_append, List.cons_append, List.nodup_cons, List.nodup_nil, List.mem_cons, List.not_mem_nil, List.mem_singleton, List.forall_mem_cons, not_or, not_false_eq_true, and_true, true_and, or_false, false_or, forall_eq_or_imp, forall_eq, implies_true, Nat.zero_add, Nat.reduceAdd, and_assoc, factsP_mapA, ptb_mapA, ptb_listA, factsP_listA, Nat.mul_one, refCells, intCells, changeCells] at v1
        have v2 := (listA_at (cs := intCells) (fun _ => rfl) (hSw.hold (listA 3 1 intCells (some ⟨ga, 0, none⟩) c1 KS) (List.mem_cons_self ..)) HQ2.out)
        try simp only [cellsQ, roomP, and_assoc, and_true, true_and, Nat.add_zero, Nat.zero_add, Nat.reduceAdd, factsP, cellsP, roomP, foots_cons, foots_nil, foots_append, foot_pt, ptb, ptb_mapA, foot_mapA, factsP_mapA, foot_bun, List.append_nil, List.nil_append, List.cons_append, List.nodup_cons, List.nodup_nil, List.mem_cons, List.not_mem_nil, List.mem_singleton, List.forall_mem_cons, not_or, not_false_eq_true, and_true, true_and, or_false, false_or, forall_eq_or_imp, forall_eq, implies_true, Nat.zero_add, Nat.reduceAdd, and_assoc, factsP_mapA, ptb_mapA, ptb_listA, factsP_listA, Nat.mul_one, refCells, intCells, changeCells] at v2
        have v3 := (listA_at refLen ((H.out.view hSw.fr).hold (listA 66 5 refCells (some ⟨gb, 0, none⟩) c r) (by simp)) HQ.out)
        try simp only [cellsQ, roomP, and_assoc, and_true, true_and, Nat.add_zero, Nat.zero_add, Nat.reduceAdd, factsP, cellsP, roomP, foots_cons, foots_nil, foots_append, foot_pt, ptb, ptb_mapA, foot_mapA, factsP_mapA, foot_bun, List.append_nil, List.nil_append, List.cons_append, List.nodup_cons, List.nodup_nil, List.mem_cons, List.not_mem_nil, List.mem_singleton, List.forall_mem_cons, not_or, not_false_eq_true, and_true, true_and, or_false, false_or, forall_eq_or_imp, forall_eq, implies_true, Nat.zero_add, Nat.reduceAdd, and_assoc, factsP_mapA, ptb_mapA, ptb_listA, factsP_listA, Nat.mul_one, refCells, intCells, changeCells] at v3
        (go_simp) <;> (with_reducible rfl)
      case' r1_4 =>
        try simp only [Act.put, List.setIfInBounds_toArray, List.set_cons_zero, List.set_cons_succ]
      refine takeH (i := 4) (v := ?v1_5) rfl (by kernel_rfl) (by kernel_rfl) (by kernel_rfl) (fun _ _ _ h => h) (by rfl) ?y1_5 (O.sel [true]) ?r1_5
      case y1_5 =>
        intro WW hSw
        (go_simp) <;> (with_reducible rfl)
      case' r1_5 =>
        try simp only [Act.put, List.setIfInBounds_toArray, List.set_cons_zero, List.set_cons_succ]
      refine takeH (i := 5) (v := ?v1_6) rfl (by kernel_rfl) (by kernel_rfl) (by kernel_rfl) (fun _ _ _ h => h) (by rfl) ?y1_6 (O.sel [true]) ?r1_6
      case y1_6 =>
        intro WW hSw
        (go_simp) <;> (with_reducible rfl)
      case' r1_6 =>
        try simp only [Act.put, List.setIfInBounds_toArray, List.set_cons_zero, List.set_cons_succ]
      refine takeH (i := 6) (v := ?v1_7) rfl (by kernel_rfl) (by kernel_rfl) (by kernel_rfl) (fun _ _ _ h => h) (by rfl) ?y1_7 (O.sel [true]) ?r1_7
      case y1_7 =>
        intro WW hSw
        replace hSw : Mem _ _ WW _ := hSw
        have cs := hSw.facts
        simp only [sel, factsP, cellsP, roomP, foots_cons, foots_nil, foots_append, foot_pt, ptb, ptb_mapA, foot_mapA, factsP_mapA, foot_bun, List.append_nil, List.nil_append, List.cons_append, List.nodup_cons, List.nodup_nil, List.mem_cons, List.not_mem_nil, List.mem_singleton, List.forall_mem_cons, not_or, not_false_eq_true, and_true, true_and, or_false, false_or, forall_eq_or_imp, forall_eq, implies_true, Nat.zero_add, Nat.reduceAdd, and_assoc, factsP_mapA, ptb_mapA, ptb_listA, factsP_listA, Nat.mul_one, refCells, intCells, changeCells] at cs
        have v1 := (H.out.view hSw.fr).facts
        try simp only [cellsQ, roomP, and_assoc, and_true, true_and, Nat.add_zero, Nat.zero_add, Nat.reduceAdd, factsP, cellsP, roomP, foots_cons, foots_nil, foots_append, foot_pt, ptb, ptb_mapA, foot_mapA, factsP_mapA, foot_bun, List.append_nil, List.nil_append, List.cons_append, List.nodup_cons, List.nodup_nil, List.mem_cons, List.not_mem_nil, List.mem_singleton, List.forall_mem_cons, not_or, not_false_eq_true, and_true, true_and, or_false, false_or, forall_eq_or_imp, forall_eq, implies_true, Nat.zero_add, Nat.reduceAdd, and_assoc, factsP_mapA, ptb_mapA, ptb_listA, factsP_listA, Nat.mul_one, refCells, intCells, changeCells] at v1
        have v2 := (listA_at (cs := intCells) (fun _ => rfl) (hSw.hold (listA 3 1 intCells (some ⟨ga, 0, none⟩) c1 KS) (List.mem_cons_self ..)) HQ2.out)
        try simp only [cellsQ, roomP, and_assoc, and_true, true_and, Nat.add_zero, Nat.zero_add, Nat.reduceAdd, factsP, cellsP, roomP, foots_cons, foots_nil, foots_append, foot_pt, ptb, ptb_mapA, foot_mapA, factsP_mapA, foot_bun, List.append_nil, List.nil_append, List.cons_append, List.nodup_cons, List.nodup_nil, List.mem_cons, List.not_mem_nil, List.mem_singleton, List.forall_mem_cons, not_or, not_false_eq_true, and_true, true_and, or_false, false_or, forall_eq_or_imp, forall_eq, implies_true, Nat.zero_add, Nat.reduceAdd, and_assoc, factsP_mapA, ptb_mapA, ptb_listA, factsP_listA, Nat.mul_one, refCells, intCells, changeCells] at v2
        have v3 := (listA_at refLen ((H.out.view hSw.fr).hold (listA 66 5 refCells (some ⟨gb, 0, none⟩) c r) (by simp)) HQ.out)
        try simp only [cellsQ, roomP, and_assoc, and_true, true_and, Nat.add_zero, Nat.zero_add, Nat.reduceAdd, factsP, cellsP, roomP, foots_cons, foots_nil, foots_append, foot_pt, ptb, ptb_mapA, foot_mapA, factsP_mapA, foot_bun, List.append_nil, List.nil_append, List.cons_append, List.nodup_cons, List.nodup_nil, List.mem_cons, List.not_mem_nil, List.mem_singleton, List.forall_mem_cons, not_or, not_false_eq_true, and_true, true_and, or_false, false_or, forall_eq_or_imp, forall_eq, implies_true, Nat.zero_add, Nat.reduceAdd, and_assoc, factsP_mapA, ptb_mapA, ptb_listA, factsP_listA, Nat.mul_one, refCells, intCells, changeCells] at v3
        (go_simp) <;> (with_reducible rfl)
      case' r1_7 =>
        try simp only [Act.put, List.setIfInBounds_toArray, List.set_cons_zero, List.set_cons_succ]
      refine takeH (i := 7) (v := ?v1_8) rfl (by kernel_rfl) (by kernel_rfl) (by kernel_rfl) (fun _ _ _ h => h) (by rfl) ?y1_8 (O.sel [true]) ?r1_8
      case y1_8 =>
        intro WW hSw
        replace hSw : Mem _ _ WW _ := hSw
        have cs := hSw.facts
        simp only [sel, factsP, cellsP, roomP, foots_cons, foots_nil, foots_append, foot_pt, ptb, ptb_mapA, foot_mapA, factsP_mapA, foot_bun, List.append_nil, List.nil_append, List.cons_append, List.nodup_cons, List.nodup_nil, List.mem_cons, List.not_mem_nil, List.mem_singleton, List.forall_mem_cons, not_or, not_false_eq_true, and_true, true_and, or_false, false_or, forall_eq_or_imp, forall_eq, implies_true, Nat.zero_add, Nat.reduceAdd, and_assoc, factsP_mapA, ptb_mapA, ptb_listA, factsP_listA, Nat.mul_one, refCells, intCells, changeCells] at cs
        have v1 := (H.out.view hSw.fr).facts
        try simp only [cellsQ, roomP, and_assoc, and_true, true_and, Nat.add_zero, Nat.zero_add, Nat.reduceAdd, factsP, cellsP, roomP, foots_cons, foots_nil, foots_append, foot_pt, ptb, ptb_mapA, foot_mapA, factsP_mapA, foot_bun, List.append_nil, List.nil_append, List.cons_append, List.nodup_cons, List.nodup_nil, List.mem_cons, List.not_mem_nil, List.mem_singleton, List.forall_mem_cons, not_or, not_false_eq_true, and_true, true_and, or_false, false_or, forall_eq_or_imp, forall_eq, implies_true, Nat.zero_add, Nat.reduceAdd, and_assoc, factsP_mapA, ptb_mapA, ptb_listA, factsP_listA, Nat.mul_one, refCells, intCells, changeCells] at v1
        have v2 := (listA_at (cs := intCells) (fun _ => rfl) (hSw.hold (listA 3 1 intCells (some ⟨ga, 0, none⟩) c1 KS) (List.mem_cons_self ..)) HQ2.out)
        try simp only [cellsQ, roomP, and_assoc, and_true, true_and, Nat.add_zero, Nat.zero_add, Nat.reduceAdd, factsP, cellsP, roomP, foots_cons, foots_nil, foots_append, foot_pt, ptb, ptb_mapA, foot_mapA, factsP_mapA, foot_bun, List.append_nil, List.nil_append, List.cons_append, List.nodup_cons, List.nodup_nil, List.mem_cons, List.not_mem_nil, List.mem_singleton, List.forall_mem_cons, not_or, not_false_eq_true, and_true, true_and, or_false, false_or, forall_eq_or_imp, forall_eq, implies_true, Nat.zero_add, Nat.reduceAdd, and_assoc, factsP_mapA, ptb_mapA, ptb_listA, factsP_listA, Nat.mul_one, refCells, intCells, changeCells] at v2
        have v3 := (listA_at refLen ((H.out.view hSw.fr).hold (listA 66 5 refCells (some ⟨gb, 0, none⟩) c r) (by simp)) HQ.out)
        try simp only [cellsQ, roomP, and_assoc, and_true, true_and, Nat.add_zero, Nat.zero_add, Nat.reduceAdd, factsP, cellsP, roomP, foots_cons, foots_nil, foots_append, foot_pt, ptb, ptb_mapA, foot_mapA, factsP_mapA, foot_bun, List.append_nil, List.nil_append, List.cons_append, List.nodup_cons, List.nodup_nil, List.mem_cons, List.not_mem_nil, List.mem_singleton, List.forall_mem_cons, not_or, not_false_eq_true, and_true, true_and, or_false, false_or, forall_eq_or_imp, forall_eq, implies_true, Nat.zero_add, Nat.reduceAdd, and_assoc, factsP_mapA, ptb_mapA, ptb_listA, factsP_listA, Nat.mul_one, refCells, intCells, changeCells] at v3
        (go_simp) <;> (with_reducible rfl)
      case' r1_8 =>
        try simp only [Act.put, List.setIfInBounds_toArray, List.set_cons_zero, List.set_cons_succ]
      refine wpAnyH_ready (rs := [8]) (by kernel_rfl) (by simp) ?_
      refine consH rfl (fun K hK => ?_) AllReadyH.nil
      have cs := O.facts
      simp only [factsP, cellsP, roomP, foots_cons, foots_nil, foots_append, foot_pt, ptb, ptb_mapA, foot_mapA, factsP_mapA, foot_bun, List.append_nil, List.nil_append, List.cons_append, List.nodup_cons, List.nodup_nil, List.mem_cons, List.not_mem_nil, List.mem_singleton, List.forall_mem_cons, not_or, not_false_eq_true, and_true, true_and, or_false, false_or, forall_eq_or_imp, forall_eq, implies_true, Nat.zero_add, Nat.reduceAdd, and_assoc, factsP_mapA, ptb_mapA, ptb_listA, factsP_listA, Nat.mul_one, refCells, intCells, changeCells] at cs
      have v1 := (H.out.view O.fr).facts
      try simp only [cellsQ, roomP, and_assoc, and_true, true_and, Nat.add_zero, Nat.zero_add, Nat.reduceAdd, factsP, cellsP, roomP, foots_cons, foots_nil, foots_append, foot_pt, ptb, ptb_mapA, foot_mapA, factsP_mapA, foot_bun, List.append_nil, List.nil_append, List.cons_append, List.nodup_cons, List.nodup_nil, List.mem_cons, List.not_mem_nil, List.mem_singleton, List.forall_mem_cons, not_or, not_false_eq_true, and_true, true_and, or_false, false_or, forall_eq_or_imp, forall_eq, implies_true, Nat.zero_add, Nat.reduceAdd, and_assoc, factsP_mapA, ptb_mapA, ptb_listA, factsP_listA, Nat.mul_one, refCells, intCells, changeCells] at v1
      have v2 := (listA_at (cs := intCells) (fun _ => rfl) (O.hold (listA 3 1 intCells (some ⟨ga, 0, none⟩) c1 KS) (List.mem_cons_self ..)) HQ2.out)
      try simp only [cellsQ, roomP, and_assoc, and_true, true_and, Nat.add_zero, Nat.zero_add, Nat.reduceAdd, factsP, cellsP, roomP, foots_cons, foots_nil, foots_append, foot_pt, ptb, ptb_mapA, foot_mapA, factsP_mapA, foot_bun, List.append_nil, List.nil_append, List.cons_append, List.nodup_cons, List.nodup_nil, List.mem_cons, List.not_mem_nil, List.mem_singleton, List.forall_mem_cons, not_or, not_false_eq_true, and_true, true_and, or_false, false_or, forall_eq_or_imp, forall_eq, implies_true, Nat.zero_add, Nat.reduceAdd, and_assoc, factsP_mapA, ptb_mapA, ptb_listA, factsP_listA, Nat.mul_one, refCells, intCells, changeCells] at v2
      have v3 := (listA_at refLen ((H.out.view O.fr).hold (listA 66 5 refCells (some ⟨gb, 0, none⟩) c r) (by simp)) HQ.out)
      try simp only [cellsQ, roomP, and_assoc, and_true, true_and, Nat.add_zero, Nat.zero_add, Nat.reduceAdd, factsP, cellsP, roomP, foots_cons, foots_nil, foots_append, foot_pt, ptb, ptb_mapA, foot_mapA, factsP_mapA, foot_bun, List.append_nil, List.nil_append, List.cons_append, List.nodup_cons, List.nodup_nil, List.mem_cons, List.not_mem_nil, List.mem_singleton, List.forall_mem_cons, not_or, not_false_eq_true, and_true, true_and, or_false, false_or, forall_eq_or_imp, forall_eq, implies_true, Nat.zero_add, Nat.reduceAdd, and_assoc, factsP_mapA, ptb_mapA, ptb_listA, factsP_listA, Nat.mul_one, refCells, intCells, changeCells] at v3
      go_simp
      apply Mem.atCall
      case h => repeat' (first | (with_reducible exact O) | (with_reducible apply Mem.drew) | (with_reducible apply Mem.drewN) | (with_reducible apply Mem.ext) | (with_reducible apply Mem.alloc) | (with_reducible apply Mem.setCell) | (simp only [ptb, ptb_upd, foots_cons, List.mem_cons, World.size_alloc, size_ext, World.size_setCell, true_or, or_true, eq_self_iff_true, ptb_mapA, ptb_listA]))
      intro w1_9 O'
      (try clear O)
      have O := O'
      clear O'
      (first | simp only [sel, rst, List.cons_append, List.nil_append, World.size_alloc, size_ext, World.size_setCell, size_setMap, World.size_drew, size_drewN, upd, List.set_cons_zero, List.set_cons_succ, if_true, if_false, reduceIte, not_false_eq_true, ne_lt0, ne_lt1, ne_lt2, ne_lt3, ne_lt4, cs] at O | simp only [sel, rst, List.cons_append, List.nil_append, World.size_alloc, size_ext, World.size_setCell, size_setMap, World.size_drew, size_drewN, upd, List.set_cons_zero, List.set_cons_succ, if_true, if_false, reduceIte, not_false_eq_true, ne_lt0, ne_lt1, ne_lt2, ne_lt3, ne_lt4] at O | skip)
      (try clear cs)
      (try clear v1)
      (try clear v2)
      (try clear v3)
      refine (CQ.out _ ((H.out.view O.fr).pre [false, true, true])).mono ?_
      rintro e w1_9' ⟨rfl, o⟩
      replace O := O.callp [] o
      clear o
      simp only [put, List.cons_append, List.nil_append] at O
      go_wp2_with fail
      refine hK.out _ _ (O.sel [true]) (fun _ => ?_)
      clear hK K
      refine takeH (i := 9) (v := ?v1_10) rfl (by kernel_rfl) (by kernel_rfl) (by kernel_rfl) (fun _ _ _ h => h) (by rfl) ?y1_10 (O.sel [true]) ?r1_10
      case y1_10 =>
        intro WW hSw
        (go_simp) <;> (with_reducible rfl)
      case' r1_10 =>
        try simp only [Act.put, List.setIfInBounds_toArray, List.set_cons_zero, List.set_cons_succ]
      refine takeH (i := 10) (v := ?v1_11) rfl (by kernel_rfl) (by kernel_rfl) (by kernel_rfl) (fun _ _ _ h => h) (by rfl) ?y1_11 (O.sel [true]) ?r1_11
      case y1_11 =>
        intro WW hSw
        (go_simp) <;> (with_reducible rfl)
      case' r1_11 =>
        try simp only [Act.put, List.setIfInBounds_toArray, List.set_cons_zero, List.set_cons_succ]
      refine takeH (i := 11) (v := ?v1_12) rfl (by kernel_rfl) (by kernel_rfl) (by kernel_rfl) (fun _ _ _ h => h) (by rfl) ?y1_12 (O.sel [true]) ?r1_12
      case y1_12 =>
        intro WW hSw
        (go_simp) <;> (with_reducible rfl)
      case' r1_12 =>
        try simp only [Act.put, List.setIfInBounds_toArray, List.set_cons_zero, List.set_cons_succ]
      refine takeH (i := 12) (v := ?v1_13) rfl (by kernel_rfl) (by kernel_rfl) (by kernel_rfl) (fun _ _ _ h => h) (by rfl) ?y1_13 (O.sel [true]) ?r1_13
      case y1_13 =>
        intro WW hSw
        (go_simp) <;> (with_reducible rfl)
      case' r1_13 =>
        try simp only [Act.put, List.setIfInBounds_toArray, List.set_cons_zero, List.set_cons_succ]
      refine takeH (i := 13) (v := ?v1_14) rfl (by kernel_rfl) (by kernel_rfl) (by kernel_rfl) (fun _ _ _ h => h) (by rfl) ?y1_14 (O.sel [true]) ?r1_14
      case y1_14 =>
        intro WW hSw
        (go_simp) <;> (with_reducible rfl)
      case' r1_14 =>
        try simp only [Act.put, List.setIfInBounds_toArray, List.set_cons_zero, List.set_cons_succ]
      refine wpAnyH_done (by kernel_rfl) ?_ _
      have cs := O.facts
      simp only [factsP, cellsP, roomP, foots_cons, foots_nil, foots_append, foot_pt, ptb, ptb_mapA, foot_mapA, factsP_mapA, foot_bun, List.append_nil, List.nil_append, List.cons_append, List.nodup_cons, List.nodup_nil, List.mem_cons, List.not_mem_nil, List.mem_singleton, List.forall_mem_cons, not_or, not_false_eq_true, and_true, true_and, or_false, false_or, forall_eq_or_imp, forall_eq, implies_true, Nat.zero_add, Nat.reduceAdd, and_assoc, factsP_mapA, ptb_mapA, ptb_listA, factsP_listA, Nat.mul_one, refCells, intCells, changeCells] at cs
      have v1 := (H.out.view O.fr).facts
      try simp only [cellsQ, roomP, and_assoc, and_true, true_and, Nat.add_zero, Nat.zero_add, Nat.reduceAdd, factsP, cellsP, roomP, foots_cons, foots_nil, foots_append, foot_pt, ptb, ptb_mapA, foot_mapA, factsP_mapA, foot_bun, List.append_nil, List.nil_append, List.cons_append, List.nodup_cons, List.nodup_nil, List.mem_cons, List.not_mem_nil, List.mem_singleton, List.forall_mem_cons, not_or, not_false_eq_true, and_true, true_and, or_false, false_or, forall_eq_or_imp, forall_eq, implies_true, Nat.zero_add, Nat.reduceAdd, and_assoc, factsP_mapA, ptb_mapA, ptb_listA, factsP_listA, Nat.mul_one, refCells, intCells, changeCells] at v1
      have v2 := (listA_at (cs := intCells) (fun _ => rfl) (O.hold (listA 3 1 intCells (some ⟨ga, 0, none⟩) c1 KS) (List.mem_cons_self ..)) HQ2.out)
      try simp only [cellsQ, roomP, and_assoc, and_true, true_and, Nat.add_zero, Nat.zero_add, Nat.reduceAdd, factsP, cellsP, roomP, foots_cons, foots_nil, foots_append, foot_pt, ptb, ptb_mapA, foot_mapA, factsP_mapA, foot_bun, List.append_nil, List.nil_append, List.cons_append, List.nodup_cons, List.nodup_nil, List.mem_cons, List.not_mem_nil, List.mem_singleton, List.forall_mem_cons, not_or, not_false_eq_true, and_true, true_and, or_false, false_or, forall_eq_or_imp, forall_eq, implies_true, Nat.zero_add, Nat.reduceAdd, and_assoc, factsP_mapA, ptb_mapA, ptb_listA, factsP_listA, Nat.mul_one, refCells, intCells, changeCells] at v2
      have v3 := (listA_at refLen ((H.out.view O.fr).hold (listA 66 5 refCells (some ⟨gb, 0, none⟩) c r) (by simp)) HQ.out)
      try simp only [cellsQ, roomP, and_assoc, and_true, true_and, Nat.add_zero, Nat.zero_add, Nat.reduceAdd, factsP, cellsP, roomP, foots_cons, foots_nil, foots_append, foot_pt, ptb, ptb_mapA, foot_mapA, factsP_mapA, foot_bun, List.append_nil, List.nil_append, List.cons_append, List.nodup_cons, List.nodup_nil, List.mem_cons, List.not_mem_nil, List.mem_singleton, List.forall_mem_cons, not_or, not_false_eq_true, and_true, true_and, or_false, false_or, forall_eq_or_imp, forall_eq, implies_true, Nat.zero_add, Nat.reduceAdd, and_assoc, factsP_mapA, ptb_mapA, ptb_listA, factsP_listA, Nat.mul_one, refCells, intCells, changeCells] at v3
      go_upto_region 8 with fail
      apply region_quiet_mem (by kernel_rfl) (by kernel_rfl)
      case O => repeat' (first | (with_reducible exact O) | (with_reducible apply Mem.drew) | (with_reducible apply Mem.drewN) | (with_reducible apply Mem.ext) | (with_reducible apply Mem.alloc) | (with_reducible apply Mem.setCell) | (simp only [ptb, ptb_upd, foots_cons, List.mem_cons, World.size_alloc, size_ext, World.size_setCell, true_or, or_true, eq_self_iff_true, ptb_mapA, ptb_listA]))
      case' h =>
        intro y1 O'
        (try clear O)
        have O := O'
        clear O'
        (first | simp only [sel, rst, List.cons_append, List.nil_append, World.size_alloc, size_ext, World.size_setCell, size_setMap, World.size_drew, size_drewN, upd, List.set_cons_zero, List.set_cons_succ, if_true, if_false, reduceIte, not_false_eq_true, ne_lt0, ne_lt1, ne_lt2, ne_lt3, ne_lt4, cs] at O | simp only [sel, rst, List.cons_append, List.nil_append, World.size_alloc, size_ext, World.size_setCell, size_setMap, World.size_drew, size_drewN, upd, List.set_cons_zero, List.set_cons_succ, if_true, if_false, reduceIte, not_false_eq_true, ne_lt0, ne_lt1, ne_lt2, ne_lt3, ne_lt4] at O | skip)
        (try clear cs)
        (try clear v1)
        (try clear v2)
        (try clear v3)
      have cs := O.facts
      simp only [factsP, cellsP, roomP, foots_cons, foots_nil, foots_append, foot_pt, ptb, ptb_mapA, foot_mapA, factsP_mapA, foot_bun, List.append_nil, List.nil_append, List.cons_append, List.nodup_cons, List.nodup_nil, List.mem_cons, List.not_mem_nil, List.mem_singleton, List.forall_mem_cons, not_or, not_false_eq_true, and_true, true_and, or_false, false_or, forall_eq_or_imp, forall_eq, implies_true, Nat.zero_add, Nat.reduceAdd, and_assoc, factsP_mapA, ptb_mapA, ptb_listA, factsP_listA, Nat.mul_one, refCells, intCells, changeCells] at cs
      have v1 := (H.out.view O.fr).facts
      try simp only [cellsQ, roomP, and_assoc, and_true, true_and, Nat.add_zero, Nat.zero_add, Nat.reduceAdd, factsP, cellsP, roomP, foots_cons, foots_nil, foots_append, foot_pt, ptb, ptb_mapA, foot_mapA, factsP_mapA, foot_bun, List.append_nil, List.nil_append, List.cons_append, List.nodup_cons, List.nodup_nil, List.mem_cons, List.not_mem_nil, List.mem_singleton, List.forall_mem_cons, not_or, not_false_eq_true, and_true, true_and, or_false, false_or, forall_eq_or_imp, forall_eq, implies_true, Nat.zero_add, Nat.reduceAdd, and_assoc, factsP_mapA, ptb_mapA, ptb_listA, factsP_listA, Nat.mul_one, refCells, intCells, changeCells] at v1
      have v2 := (listA_at (cs := intCells) (fun _ => rfl) (O.hold (listA 3 1 intCells (some ⟨ga, 0, none⟩) c1 KS) (List.mem_cons_self ..)) HQ2.out)
      try simp only [cellsQ, roomP, and_assoc, and_true, true_and, Nat.add_zero, Nat.zero_add, Nat.reduceAdd, factsP, cellsP, roomP, foots_cons, foots_nil, foots_append, foot_pt, ptb, ptb_mapA, foot_mapA, factsP_mapA, foot_bun, List.append_nil, List.nil_append, List.cons_append, List.nodup_cons, List.nodup_nil, List.mem_cons, List.not_mem_nil, List.mem_singleton, List.forall_mem_cons, not_or, not_false_eq_true, and_true, true_and, or_false, false_or, forall_eq_or_imp, forall_eq, implies_true, Nat.zero_add, Nat.reduceAdd, and_assoc, factsP_mapA, ptb_mapA, ptb_listA, factsP_listA, Nat.mul_one, refCells, intCells, changeCells] at v2
      have v3 := (listA_at refLen ((H.out.view O.fr).hold (listA 66 5 refCells (some ⟨gb, 0, none⟩) c r) (by simp)) HQ.out)
      try simp only [cellsQ, roomP, and_assoc, and_true, true_and, Nat.add_zero, Nat.zero_add, Nat.reduceAdd, factsP, cellsP, roomP, foots_cons, foots_nil, foots_append, foot_pt, ptb, ptb_mapA, foot_mapA, factsP_mapA, foot_bun, List.append_nil, List.nil_append, List.cons_append, List.nodup_cons, List.nodup_nil, List.mem_cons, List.not_mem_nil, List.mem_singleton, List.forall_mem_cons, not_or, not_false_eq_true, and_true, true_and, or_false, false_or, forall_eq_or_imp, forall_eq, implies_true, Nat.zero_add, Nat.reduceAdd, and_assoc, factsP_mapA, ptb_mapA, ptb_listA, factsP_listA, Nat.mul_one, refCells, intCells, changeCells] at v3
      repeat (go_big_quiet_step ((first | (go_at_call 29; with_reducible exact quietMem (CB.out _)))))
      refine wpQuiet_nil ?_
      intro y2 hq
      (try clear cs)
      (try clear v1)
      (try clear v2)
      (try clear v3)
      replace O := O.qext hq
      clear hq
      have cs := O.facts
      simp only [factsP, cellsP, roomP, foots_cons, foots_nil, foots_append, foot_pt, ptb, ptb_mapA, foot_mapA, factsP_mapA, foot_bun, List.append_nil, List.nil_append, List.cons_append, List.nodup_cons, List.nodup_nil, List.mem_cons, List.not_mem_nil, List.mem_singleton, List.forall_mem_cons, not_or, not_false_eq_true, and_true, true_and, or_false, false_or, forall_eq_or_imp, forall_eq, implies_true, Nat.zero_add, Nat.reduceAdd, and_assoc, factsP_mapA, ptb_mapA, ptb_listA, factsP_listA, Nat.mul_one, refCells, intCells, changeCells] at cs
      have v1 := (H.out.view O.fr).facts
      try simp only [cellsQ, roomP, and_assoc, and_true, true_and, Nat.add_zero, Nat.zero_add, Nat.reduceAdd, factsP, cellsP, roomP, foots_cons, foots_nil, foots_append, foot_pt, ptb, ptb_mapA, foot_mapA, factsP_mapA, foot_bun, List.append_nil, List.nil_append, List.cons_append, List.nodup_cons, List.nodup_nil, List.mem_cons, List.not_mem_nil, List.mem_singleton, List.forall_mem_cons, not_or, not_false_eq_true, and_true, true_and, or_false, false_or, forall_eq_or_imp, forall_eq, implies_true, Nat.zero_add, Nat.reduceAdd, and_assoc, factsP_mapA, ptb_mapA, ptb_listA, factsP_listA, Nat.mul_one, refCells, intCells, changeCells] at v1
      have v2 := (listA_at (cs := intCells) (fun _ => rfl) (O.hold (listA 3 1 intCells (some ⟨ga, 0, none⟩) c1 KS) (List.mem_cons_self ..)) HQ2.out)
      try simp only [cellsQ, roomP, and_assoc, and_true, true_and, Nat.add_zero, Nat.zero_add, Nat.reduceAdd, factsP, cellsP, roomP, foots_cons, foots_nil, foots_append, foot_pt, ptb, ptb_mapA, foot_mapA, factsP_mapA, foot_bun, List.append_nil, List.nil_append, List.cons_append, List.nodup_cons, List.nodup_nil, List.mem_cons, List.not_mem_nil, List.mem_singleton, List.forall_mem_cons, not_or, not_false_eq_true, and_true, true_and, or_false, false_or, forall_eq_or_imp, forall_eq, implies_true, Nat.zero_add, Nat.reduceAdd, and_assoc, factsP_mapA, ptb_mapA, ptb_listA, factsP_listA, Nat.mul_one, refCells, intCells, changeCells] at v2
      have v3 := (listA_at refLen ((H.out.view O.fr).hold (listA 66 5 refCells (some ⟨gb, 0, none⟩) c r) (by simp)) HQ.out)
      try simp only [cellsQ, roomP, and_assoc, and_true, true_and, Nat.add_zero, Nat.zero_add, Nat.reduceAdd, factsP, cellsP, roomP, foots_cons, foots_nil, foots_append, foot_pt, ptb, ptb_mapA, foot_mapA, factsP_mapA, foot_bun, List.append_nil, List.nil_append, List.cons_append, List.nodup_cons, List.nodup_nil, List.mem_cons, List.not_mem_nil, List.mem_singleton, List.forall_mem_cons, not_or, not_false_eq_true, and_true, true_and, or_false, false_or, forall_eq_or_imp, forall_eq, implies_true, Nat.zero_add, Nat.reduceAdd, and_assoc, factsP_mapA, ptb_mapA, ptb_listA, factsP_listA, Nat.mul_one, refCells, intCells, changeCells] at v3
      go_wp2_with fail
      go_roundw
      case rel => exact ⟨k + 1, by omega, by go_num, O⟩
      case measure => simp [intOf]; omega
    · obtain rfl : k = r.length := by omega
      skip
      have cs := O.facts
      simp only [factsP, cellsP, roomP, foots_cons, foots_nil, foots_append, foot_pt, ptb, ptb_mapA, foot_mapA, factsP_mapA, foot_bun, List.append_nil, List.nil_append, List.cons_append, List.nodup_cons, List.nodup_nil, List.mem_cons, List.not_mem_nil, List.mem_singleton, List.forall_mem_cons, not_or, not_false_eq_true, and_true, true_and, or_false, false_or, forall_eq_or_imp, forall_eq, implies_true, Nat.zero_add, Nat.reduceAdd, and_assoc, factsP_mapA, ptb_mapA, ptb_listA, factsP_listA, Nat.mul_one, refCells, intCells, changeCells] at cs
      have v1 := (H.out.view O.fr).facts
      try simp only [cellsQ, roomP, and_assoc, and_true, true_and, Nat.add_zero, Nat.zero_add, Nat.reduceAdd, factsP, cellsP, roomP, foots_cons, foots_nil, foots_append, foot_pt, ptb, ptb_mapA, foot_mapA, factsP_mapA, foot_bun, List.append_nil, List.nil_append, List.cons_append, List.nodup_cons, List.nodup_nil, List.mem_cons, List.not_mem_nil, List.mem_singleton, List.forall_mem_cons, not_or, not_false_eq_true, and_true, true_and, or_false, false_or, forall_eq_or_imp, forall_eq, implies_true, Nat.zero_add, Nat.reduceAdd, and_assoc, factsP_mapA, ptb_mapA, ptb_listA, factsP_listA, Nat.mul_one, refCells, intCells, changeCells] at v1
      go_wp2_with fail
      first | apply Mem.atCall | apply Mem.atCode | apply Mem.atList
      case h => repeat' (first | (with_reducible exact O) | (with_reducible apply Mem.drew) | (with_reducible apply Mem.drewN) | (with_reducible apply Mem.ext) | (with_reducible apply Mem.alloc) | (with_reducible apply Mem.setCell) | (simp only [ptb, ptb_upd, foots_cons, List.mem_cons, World.size_alloc, size_ext, World.size_setCell, true_or, or_true, eq_self_iff_true, ptb_mapA, ptb_listA]))
      case' k =>
        intro w3 O'
        (try clear O)
        have O := O'
        clear O'
        (first | simp only [sel, rst, List.cons_append, List.nil_append, World.size_alloc, size_ext, World.size_setCell, size_setMap, World.size_drew, size_drewN, upd, List.set_cons_zero, List.set_cons_succ, if_true, if_false, reduceIte, not_false_eq_true, ne_lt0, ne_lt1, ne_lt2, ne_lt3, ne_lt4, cs] at O | simp only [sel, rst, List.cons_append, List.nil_append, World.size_alloc, size_ext, World.size_setCell, size_setMap, World.size_drew, size_drewN, upd, List.set_cons_zero, List.set_cons_succ, if_true, if_false, reduceIte, not_false_eq_true, ne_lt0, ne_lt1, ne_lt2, ne_lt3, ne_lt4] at O | skip)
        (try clear cs)
        (try clear v1)
        (try clear v2)
        (try clear v3)
      refine (CN.out _ ((H.out.view O.fr).pre [false, true, true])).mono ?_
      rintro e w4 ⟨rfl, o⟩
      replace O := O.callp [] o
      clear o
      simp only [put, List.cons_append, List.nil_append] at O
      have cs := O.facts
      simp only [factsP, cellsP, roomP, foots_cons, foots_nil, foots_append, foot_pt, ptb, ptb_mapA, foot_mapA, factsP_mapA, foot_bun, List.append_nil, List.nil_append, List.cons_append, List.nodup_cons, List.nodup_nil, List.mem_cons, List.not_mem_nil, List.mem_singleton, List.forall_mem_cons, not_or, not_false_eq_true, and_true, true_and, or_false, false_or, forall_eq_or_imp, forall_eq, implies_true, Nat.zero_add, Nat.reduceAdd, and_assoc, factsP_mapA, ptb_mapA, ptb_listA, factsP_listA, Nat.mul_one, refCells, intCells, changeCells] at cs
      have v1 := (H.out.view O.fr).facts
      try simp only [cellsQ, roomP, and_assoc, and_true, true_and, Nat.add_zero, Nat.zero_add, Nat.reduceAdd, factsP, cellsP, roomP, foots_cons, foots_nil, foots_append, foot_pt, ptb, ptb_mapA, foot_mapA, factsP_mapA, foot_bun, List.append_nil, List.nil_append, List.cons_append, List.nodup_cons, List.nodup_nil, List.mem_cons, List.not_mem_nil, List.mem_singleton, List.forall_mem_cons, not_or, not_false_eq_true, and_true, true_and, or_false, false_or, forall_eq_or_imp, forall_eq, implies_true, Nat.zero_add, Nat.reduceAdd, and_assoc, factsP_mapA, ptb_mapA, ptb_listA, factsP_listA, Nat.mul_one, refCells, intCells, changeCells] at v1
      go_wp2_with fail
      go_ret
      exact ⟨rfl, O.fr0⟩
end Go.Proofs.Ytobiodbdnpcanaa
