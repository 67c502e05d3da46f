/- WALK: a step of the world of Paxos: a prepare comes to an acceptor. -/
import Derived.Test.YtkhpikjmhamppaaPx11
set_option linter.unusedVariables false
set_option linter.unusedSimpArgs false
namespace Go.Proofs.Ytkhpikjmhamppaa
open Go.RowKit Go.Tk
set_option maxRecDepth 100000 in
set_option maxHeartbeats 16000000 in
theorem px_prep (w : World) (xb n : Nat) (X : PxM) (P : List ByteArray) (ea eb : Int) (ev : ByteArray) (hn : 1 ≤ n ∧ n ≤ 5) (h : Pre w (X.parts n xb)) (ha : inI64 ea) (hb : inI64 eb) (hsz : X.size ≤ 1000000) (hro : X.round ≤ 1000000) (hI : Inv n P X.st) (hmo : ∀ q ∈ X.props, q.2.1 = none → q.2.2.b.r = 0) :
    Calls Try.prog 23 #[.pointer (some ⟨xb, 0, none⟩), (⟨2, ea, eb, ev⟩ : Ev).val] w (fun e w' => e = .returned (.tuple #[]) ∧ StepPost n xb w X none w') := by
  obtain ⟨fp, hfp⟩ : ∃ F, F = foots (X.parts n xb) := ⟨_, rfl⟩
  have O : Mem w fp w (X.parts n xb) := by rw [hfp]; exact h
  have HF := Lib.hid hfp
  have HMO := Lib.hid hmo
  have HI := Lib.hid hI
  clear hfp h hmo hI
  obtain ⟨A1, c1, A2, c2, A3, c3, tabs, props, learns, round, vote, B2, d2, l2, B3, d3, l3, B4, d4, l4, B5, d5, l5⟩ := X
  have hs2 : l2.length ≤ 1000000 := by simp only [PxM.size] at hsz; omega
  have hs3 : l3.length ≤ 1000000 := by simp only [PxM.size] at hsz; omega
  have hs4 : l4.length ≤ 1000000 := by simp only [PxM.size] at hsz; omega
  have hs5 : l5.length ≤ 1000000 := by simp only [PxM.size] at hsz; omega
  have HS := Lib.hid hsz
  clear hsz
  simp only at hro
  have P6 := Lib.hid (fun W => q_pick 2 6 ⟨by omega, by omega⟩ (by omega) (by omega) W)
  have e6 : (pickN 2 6 : Int) = 2 := by decide
  rw [e6] at P6
  clear e6
  by_cases hnil : l2 = []
  · subst hnil
    simp only [PxM.parts, PxM.cells, List.length_nil] at O
    simp only [Ev.val]
    skip
    go_enter Try.func23, Try.ntmps23
    have cs := O.facts
    simp only [factsP, cellsP, roomP, foots_cons, foots_nil, foots_append, foot_pt, ptb, ptb_mapA, foot_mapA, factsP_mapA, foot_bun, List.append_nil, List.nil_append, List.cons_append, List.nodup_cons, List.nodup_nil, List.mem_cons, List.not_mem_nil, List.mem_singleton, List.forall_mem_cons, not_or, not_false_eq_true, and_true, true_and, or_false, false_or, forall_eq_or_imp, forall_eq, implies_true, Nat.zero_add, Nat.reduceAdd, and_assoc, ptb_listA, factsP_listA, ptb_fam, factsP_fam, ptb_propA, factsP_propA, ptb_learnA, factsP_learnA, ptb_tabA, factsP_tabA, Nat.mul_one, sentCells, ptrCells] at cs
    go_upto_region 2 with fail
    first | apply Mem.atCall | apply Mem.atCode | apply Mem.atList
    case h => repeat' (first | (with_reducible exact O) | (with_reducible apply Mem.drew) | (with_reducible apply Mem.drewN) | (with_reducible apply Mem.ext) | (with_reducible apply Mem.alloc) | (with_reducible apply Mem.setCell) | (simp only [ptb, ptb_upd, foots_cons, List.mem_cons, World.size_alloc, size_ext, World.size_setCell, true_or, or_true, eq_self_iff_true, ptb_listA, ptb_fam, ptb_propA, ptb_learnA, ptb_tabA]))
    case' k =>
      intro w1 O'
      (try clear O)
      have O := O'
      clear O'
      (first | simp only [sel, rst, List.cons_append, List.nil_append, World.size_alloc, size_ext, World.size_setCell, size_setMap, World.size_drew, size_drewN, upd, List.set_cons_zero, List.set_cons_succ, if_true, if_false, reduceIte, not_false_eq_true, ne_lt0, ne_lt1, ne_lt2, ne_lt3, ne_lt4, cs] at O | simp only [sel, rst, List.cons_append, List.nil_append, World.size_alloc, size_ext, World.size_setCell, size_setMap, World.size_drew, size_drewN, upd, List.set_cons_zero, List.set_cons_succ, if_true, if_false, reduceIte, not_false_eq_true, ne_lt0, ne_lt1, ne_lt2, ne_lt3, ne_lt4] at O | skip)
      (try clear cs)
      (try clear v1)
      (try clear v2)
      (try clear v3)
    generalize w.heap.size = vb at O ⊢
    apply region_quiet_mem (by kernel_rfl) (by kernel_rfl)
    case O => repeat' (first | (with_reducible exact O) | (with_reducible apply Mem.drew) | (with_reducible apply Mem.drewN) | (with_reducible apply Mem.ext) | (with_reducible apply Mem.alloc) | (with_reducible apply Mem.setCell) | (simp only [ptb, ptb_upd, foots_cons, List.mem_cons, World.size_alloc, size_ext, World.size_setCell, true_or, or_true, eq_self_iff_true, ptb_listA, ptb_fam, ptb_propA, ptb_learnA, ptb_tabA]))
    case' h =>
      intro w2 O'
      (try clear O)
      have O := O'
      clear O'
      (first | simp only [sel, rst, List.cons_append, List.nil_append, World.size_alloc, size_ext, World.size_setCell, size_setMap, World.size_drew, size_drewN, upd, List.set_cons_zero, List.set_cons_succ, if_true, if_false, reduceIte, not_false_eq_true, ne_lt0, ne_lt1, ne_lt2, ne_lt3, ne_lt4, cs] at O | simp only [sel, rst, List.cons_append, List.nil_append, World.size_alloc, size_ext, World.size_setCell, size_setMap, World.size_drew, size_drewN, upd, List.set_cons_zero, List.set_cons_succ, if_true, if_false, reduceIte, not_false_eq_true, ne_lt0, ne_lt1, ne_lt2, ne_lt3, ne_lt4] at O | skip)
      (try clear cs)
      (try clear v1)
      (try clear v2)
      (try clear v3)
    have cs := O.facts
    simp only [factsP, cellsP, roomP, foots_cons, foots_nil, foots_append, foot_pt, ptb, ptb_mapA, foot_mapA, factsP_mapA, foot_bun, List.append_nil, List.nil_append, List.cons_append, List.nodup_cons, List.nodup_nil, List.mem_cons, List.not_mem_nil, List.mem_singleton, List.forall_mem_cons, not_or, not_false_eq_true, and_true, true_and, or_false, false_or, forall_eq_or_imp, forall_eq, implies_true, Nat.zero_add, Nat.reduceAdd, and_assoc, ptb_listA, factsP_listA, ptb_fam, factsP_fam, ptb_propA, factsP_propA, ptb_learnA, factsP_learnA, ptb_tabA, factsP_tabA, Nat.mul_one, sentCells, ptrCells] at cs
    repeat (go_big_quiet_step ((first | (go_at_call 8; with_reducible exact quietMem (P6.out _)))))
    refine wpQuiet_nil ?_
    intro w3 hq
    (try clear cs)
    (try clear v1)
    (try clear v2)
    (try clear v3)
    replace O := O.qext hq
    clear hq
    have cs := O.facts
    simp only [factsP, cellsP, roomP, foots_cons, foots_nil, foots_append, foot_pt, ptb, ptb_mapA, foot_mapA, factsP_mapA, foot_bun, List.append_nil, List.nil_append, List.cons_append, List.nodup_cons, List.nodup_nil, List.mem_cons, List.not_mem_nil, List.mem_singleton, List.forall_mem_cons, not_or, not_false_eq_true, and_true, true_and, or_false, false_or, forall_eq_or_imp, forall_eq, implies_true, Nat.zero_add, Nat.reduceAdd, and_assoc, ptb_listA, factsP_listA, ptb_fam, factsP_fam, ptb_propA, factsP_propA, ptb_learnA, factsP_learnA, ptb_tabA, factsP_tabA, Nat.mul_one, sentCells, ptrCells] at cs
    go_wp2_with fail
    refine bodyPost_ret (results_none rfl _ _ _) rfl ⟨rfl, ?_⟩
    refine ⟨⟨A1, c1, A2, c2, A3, c3, tabs, props, learns, round, vote, B2, d2, [], B3, d3, l3, B4, d4, l4, B5, d5, l5⟩, Move.idle, ?_, by simp only [PxM.size]; omega, HMO.out, rfl, rfl⟩
    rw [← HF.out]
    simp only [PxM.parts, PxM.cells, List.length_nil]
    exact O.sel [false, true, true, true, true, true, true, true, true, true, true, true]
  have hpos : 1 ≤ l2.length := by
    cases l2 with
    | nil => exact absurd rfl hnil
    | cons x y => simp
  have hpos2 : ((l2.length : Int) == 0) = false := by simp; exact hnil
  have PB := Lib.hid (fun W => q_pick eb l2.length hb hpos (by omega) W)
  have hj : pickN eb l2.length < l2.length := pickN_lt hpos
  clear hpos hnil
  generalize pickN eb l2.length = j at PB hj
  obtain ⟨m, hm⟩ : ∃ m, l2[j]? = some m := ⟨_, List.getElem?_eq_getElem hj⟩
  have HM := Lib.hid hm
  have HMM := Lib.hid (List.mem_of_getElem? hm)
  clear hm
  clear ha hb
  have h2 := HI.out.m2 m HMM.out
  obtain ⟨mto, mfrom, ⟨mbr, mbn⟩, mv, ⟨mai, ⟨mar, man⟩, mav⟩⟩ := m
  obtain ⟨hto, k, hk3, hfrom, _, _, _⟩ := h2
  simp only at hto hfrom
  subst hfrom
  have hnt : tabs.length = n := by have := HI.out.na; simpa [PxM.st] using this
  obtain ⟨⟨tb, mb, row⟩, ht⟩ : ∃ t, tabs[mto]? = some t := ⟨_, List.getElem?_eq_getElem (by omega)⟩
  have htb : (tabs.map (·.1))[mto]? = some tb := by rw [List.getElem?_map, ht]; rfl
  have hts : (PxM.st ⟨A1, c1, A2, c2, A3, c3, tabs, props, learns, round, vote, B2, d2, l2, B3, d3, l3, B4, d4, l4, B5, d5, l5⟩).accs[mto]? = some row := by
    show (tabs.map (·.2.2))[mto]? = some row
    rw [List.getElem?_map, ht]; rfl
  have HT := Lib.hid ht
  have HTS := Lib.hid hts
  have HTB := Lib.hid htb
  have HNT := Lib.hid hnt
  clear ht hts htb hnt
  have PR := Lib.hid (fun W h => m_Prepare W tb mb 1 row i0 ⟨mbr, mbn⟩ h ⟨rfl, rfl, rfl, rfl⟩)
  have MV := Lib.hid (Move.prep (n := n) (s := PxM.st ⟨A1, c1, A2, c2, A3, c3, tabs, props, learns, round, vote, B2, d2, l2, B3, d3, l3, B4, d4, l4, B5, d5, l5⟩) _ row k HMM.out rfl HTS.out)
  unfold prepS at MV
  generalize prepare10 1 row i0 ⟨mbr, mbn⟩ = pp at PR MV
  obtain ⟨⟨ai, ⟨ar, an⟩, av⟩, ⟨pr, pn⟩, pm, pe, row'⟩ := pp
  simp only [Acc.val, Ballot.val, Inst.val, i0] at PR MV
  simp only [PxM.parts, PxM.cells] at O
  simp only [Ev.val]
  skip
  go_enter Try.func23, Try.ntmps23
  have cs := O.facts
  simp only [factsP, cellsP, roomP, foots_cons, foots_nil, foots_append, foot_pt, ptb, ptb_mapA, foot_mapA, factsP_mapA, foot_bun, List.append_nil, List.nil_append, List.cons_append, List.nodup_cons, List.nodup_nil, List.mem_cons, List.not_mem_nil, List.mem_singleton, List.forall_mem_cons, not_or, not_false_eq_true, and_true, true_and, or_false, false_or, forall_eq_or_imp, forall_eq, implies_true, Nat.zero_add, Nat.reduceAdd, and_assoc, ptb_listA, factsP_listA, ptb_fam, factsP_fam, ptb_propA, factsP_propA, ptb_learnA, factsP_learnA, ptb_tabA, factsP_tabA, Nat.mul_one, sentCells, ptrCells] at cs
  go_upto_region 2 with fail
  first | apply Mem.atCall | apply Mem.atCode | apply Mem.atList
  case h => repeat' (first | (with_reducible exact O) | (with_reducible apply Mem.drew) | (with_reducible apply Mem.drewN) | (with_reducible apply Mem.ext) | (with_reducible apply Mem.alloc) | (with_reducible apply Mem.setCell) | (simp only [ptb, ptb_upd, foots_cons, List.mem_cons, World.size_alloc, size_ext, World.size_setCell, true_or, or_true, eq_self_iff_true, ptb_listA, ptb_fam, ptb_propA, ptb_learnA, ptb_tabA]))
  case' k =>
    intro w1 O'
    (try clear O)
    have O := O'
    clear O'
    (first | simp only [sel, rst, List.cons_append, List.nil_append, World.size_alloc, size_ext, World.size_setCell, size_setMap, World.size_drew, size_drewN, upd, List.set_cons_zero, List.set_cons_succ, if_true, if_false, reduceIte, not_false_eq_true, ne_lt0, ne_lt1, ne_lt2, ne_lt3, ne_lt4, cs] at O | simp only [sel, rst, List.cons_append, List.nil_append, World.size_alloc, size_ext, World.size_setCell, size_setMap, World.size_drew, size_drewN, upd, List.set_cons_zero, List.set_cons_succ, if_true, if_false, reduceIte, not_false_eq_true, ne_lt0, ne_lt1, ne_lt2, ne_lt3, ne_lt4] at O | skip)
    (try clear cs)
    (try clear v1)
    (try clear v2)
    (try clear v3)
  generalize w.heap.size = vb at O ⊢
  apply region_quiet_mem (by kernel_rfl) (by kernel_rfl)
  case O => repeat' (first | (with_reducible exact O) | (with_reducible apply Mem.drew) | (with_reducible apply Mem.drewN) | (with_reducible apply Mem.ext) | (with_reducible apply Mem.alloc) | (with_reducible apply Mem.setCell) | (simp only [ptb, ptb_upd, foots_cons, List.mem_cons, World.size_alloc, size_ext, World.size_setCell, true_or, or_true, eq_self_iff_true, ptb_listA, ptb_fam, ptb_propA, ptb_learnA, ptb_tabA]))
  case' h =>
    intro w2 O'
    (try clear O)
    have O := O'
    clear O'
    (first | simp only [sel, rst, List.cons_append, List.nil_append, World.size_alloc, size_ext, World.size_setCell, size_setMap, World.size_drew, size_drewN, upd, List.set_cons_zero, List.set_cons_succ, if_true, if_false, reduceIte, not_false_eq_true, ne_lt0, ne_lt1, ne_lt2, ne_lt3, ne_lt4, cs] at O | simp only [sel, rst, List.cons_append, List.nil_append, World.size_alloc, size_ext, World.size_setCell, size_setMap, World.size_drew, size_drewN, upd, List.set_cons_zero, List.set_cons_succ, if_true, if_false, reduceIte, not_false_eq_true, ne_lt0, ne_lt1, ne_lt2, ne_lt3, ne_lt4] at O | skip)
    (try clear cs)
    (try clear v1)
    (try clear v2)
    (try clear v3)
  have cs := O.facts
  simp only [factsP, cellsP, roomP, foots_cons, foots_nil, foots_append, foot_pt, ptb, ptb_mapA, foot_mapA, factsP_mapA, foot_bun, List.append_nil, List.nil_append, List.cons_append, List.nodup_cons, List.nodup_nil, List.mem_cons, List.not_mem_nil, List.mem_singleton, List.forall_mem_cons, not_or, not_false_eq_true, and_true, true_and, or_false, false_or, forall_eq_or_imp, forall_eq, implies_true, Nat.zero_add, Nat.reduceAdd, and_assoc, ptb_listA, factsP_listA, ptb_fam, factsP_fam, ptb_propA, factsP_propA, ptb_learnA, factsP_learnA, ptb_tabA, factsP_tabA, Nat.mul_one, sentCells, ptrCells] at cs
  repeat (go_big_quiet_step ((first | (go_at_call 8; with_reducible exact quietMem (P6.out _)))))
  refine wpQuiet_nil ?_
  intro w3 hq
  (try clear cs)
  (try clear v1)
  (try clear v2)
  (try clear v3)
  replace O := O.qext hq
  clear hq
  clear P6
  obtain ⟨g, hgB, _⟩ := listA_get sentLen (O.hold (sentA B2 d2 l2) (by simp)) HM.out
  subst hgB
  have cs := O.facts
  simp only [factsP, cellsP, roomP, foots_cons, foots_nil, foots_append, foot_pt, ptb, ptb_mapA, foot_mapA, factsP_mapA, foot_bun, List.append_nil, List.nil_append, List.cons_append, List.nodup_cons, List.nodup_nil, List.mem_cons, List.not_mem_nil, List.mem_singleton, List.forall_mem_cons, not_or, not_false_eq_true, and_true, true_and, or_false, false_or, forall_eq_or_imp, forall_eq, implies_true, Nat.zero_add, Nat.reduceAdd, and_assoc, ptb_listA, factsP_listA, ptb_fam, factsP_fam, ptb_propA, factsP_propA, ptb_learnA, factsP_learnA, ptb_tabA, factsP_tabA, Nat.mul_one, sentCells, ptrCells] at cs
  go_wp2_with fail
  first | apply Mem.atCall | apply Mem.atCode | apply Mem.atList
  case h => repeat' (first | (with_reducible exact O) | (with_reducible apply Mem.drew) | (with_reducible apply Mem.drewN) | (with_reducible apply Mem.ext) | (with_reducible apply Mem.alloc) | (with_reducible apply Mem.setCell) | (simp only [ptb, ptb_upd, foots_cons, List.mem_cons, World.size_alloc, size_ext, World.size_setCell, true_or, or_true, eq_self_iff_true, ptb_listA, ptb_fam, ptb_propA, ptb_learnA, ptb_tabA]))
  case' k =>
    intro w4 O'
    (try clear O)
    have O := O'
    clear O'
    (first | simp only [sel, rst, List.cons_append, List.nil_append, World.size_alloc, size_ext, World.size_setCell, size_setMap, World.size_drew, size_drewN, upd, List.set_cons_zero, List.set_cons_succ, if_true, if_false, reduceIte, not_false_eq_true, ne_lt0, ne_lt1, ne_lt2, ne_lt3, ne_lt4, cs] at O | simp only [sel, rst, List.cons_append, List.nil_append, World.size_alloc, size_ext, World.size_setCell, size_setMap, World.size_drew, size_drewN, upd, List.set_cons_zero, List.set_cons_succ, if_true, if_false, reduceIte, not_false_eq_true, ne_lt0, ne_lt1, ne_lt2, ne_lt3, ne_lt4] at O | skip)
    (try clear cs)
    (try clear v1)
    (try clear v2)
    (try clear v3)
  generalize w3.heap.size = sb at O ⊢
  refine (PB.out _).mono ?_
  rintro e w5 ⟨rfl, o⟩
  replace O := O.callp [] o
  clear o
  simp only [put, List.cons_append, List.nil_append] at O
  clear PB
  skip
  have cs := O.facts
  simp only [factsP, cellsP, roomP, foots_cons, foots_nil, foots_append, foot_pt, ptb, ptb_mapA, foot_mapA, factsP_mapA, foot_bun, List.append_nil, List.nil_append, List.cons_append, List.nodup_cons, List.nodup_nil, List.mem_cons, List.not_mem_nil, List.mem_singleton, List.forall_mem_cons, not_or, not_false_eq_true, and_true, true_and, or_false, false_or, forall_eq_or_imp, forall_eq, implies_true, Nat.zero_add, Nat.reduceAdd, and_assoc, ptb_listA, factsP_listA, ptb_fam, factsP_fam, ptb_propA, factsP_propA, ptb_learnA, factsP_learnA, ptb_tabA, factsP_tabA, Nat.mul_one, sentCells, ptrCells] at cs
  have v1 := (listA_at sentLen (O.hold (sentA (some ⟨g, 0, none⟩) d2 l2) (by simp)) HM.out)
  try simp only [cellsQ, roomP, and_assoc, and_true, true_and, Nat.add_zero, Nat.zero_add, Nat.reduceAdd, factsP, cellsP, roomP, foots_cons, foots_nil, foots_append, foot_pt, ptb, ptb_mapA, foot_mapA, factsP_mapA, foot_bun, List.append_nil, List.nil_append, List.cons_append, List.nodup_cons, List.nodup_nil, List.mem_cons, List.not_mem_nil, List.mem_singleton, List.forall_mem_cons, not_or, not_false_eq_true, and_true, true_and, or_false, false_or, forall_eq_or_imp, forall_eq, implies_true, Nat.zero_add, Nat.reduceAdd, and_assoc, ptb_listA, factsP_listA, ptb_fam, factsP_fam, ptb_propA, factsP_propA, ptb_learnA, factsP_learnA, ptb_tabA, factsP_tabA, Nat.mul_one, sentCells, ptrCells] at v1
  go_upto_region 19 with fail
  first | apply Mem.atCall | apply Mem.atCode | apply Mem.atList
  case h => repeat' (first | (with_reducible exact O) | (with_reducible apply Mem.drew) | (with_reducible apply Mem.drewN) | (with_reducible apply Mem.ext) | (with_reducible apply Mem.alloc) | (with_reducible apply Mem.setCell) | (simp only [ptb, ptb_upd, foots_cons, List.mem_cons, World.size_alloc, size_ext, World.size_setCell, true_or, or_true, eq_self_iff_true, ptb_listA, ptb_fam, ptb_propA, ptb_learnA, ptb_tabA]))
  case' k =>
    intro w6 O'
    (try clear O)
    have O := O'
    clear O'
    (first | simp only [sel, rst, List.cons_append, List.nil_append, World.size_alloc, size_ext, World.size_setCell, size_setMap, World.size_drew, size_drewN, upd, List.set_cons_zero, List.set_cons_succ, if_true, if_false, reduceIte, not_false_eq_true, ne_lt0, ne_lt1, ne_lt2, ne_lt3, ne_lt4, cs] at O | simp only [sel, rst, List.cons_append, List.nil_append, World.size_alloc, size_ext, World.size_setCell, size_setMap, World.size_drew, size_drewN, upd, List.set_cons_zero, List.set_cons_succ, if_true, if_false, reduceIte, not_false_eq_true, ne_lt0, ne_lt1, ne_lt2, ne_lt3, ne_lt4] at O | skip)
    (try clear cs)
    (try clear v1)
    (try clear v2)
    (try clear v3)
  obtain ⟨gt, hgt, _⟩ := listA_get (cs := ptrCells) (fun _ => rfl) (O.hold (listA 75 1 ptrCells A1 c1 (tabs.map (·.1))) (by simp)) HTB.out
  subst hgt
  have O2 := O.front [false, false, false, false, false, false, true]
  simp only [sel, rst, List.cons_append, List.nil_append] at O2
  have O3 := O2.famTake HT.out
  clear O O2
  have O := O3
  clear O3
  change Mem _ _ _ (tabA tb mb 1 row :: _) at O
  skip
  apply region_held_mem [false, false, true, false, true, true] (by kernel_rfl)
  case O => repeat' (first | (with_reducible exact O) | (with_reducible apply Mem.drew) | (with_reducible apply Mem.drewN) | (with_reducible apply Mem.ext) | (with_reducible apply Mem.alloc) | (with_reducible apply Mem.setCell) | (simp only [ptb, ptb_upd, foots_cons, List.mem_cons, World.size_alloc, size_ext, World.size_setCell, true_or, or_true, eq_self_iff_true, ptb_listA, ptb_fam, ptb_propA, ptb_learnA, ptb_tabA]))
  case' h =>
    intro wr1 O'
    (try clear O)
    have O := O'
    clear O'
    (first | simp only [sel, rst, List.cons_append, List.nil_append, World.size_alloc, size_ext, World.size_setCell, size_setMap, World.size_drew, size_drewN, upd, List.set_cons_zero, List.set_cons_succ, if_true, if_false, reduceIte, not_false_eq_true, ne_lt0, ne_lt1, ne_lt2, ne_lt3, ne_lt4, cs] at O | simp only [sel, rst, List.cons_append, List.nil_append, World.size_alloc, size_ext, World.size_setCell, size_setMap, World.size_drew, size_drewN, upd, List.set_cons_zero, List.set_cons_succ, if_true, if_false, reduceIte, not_false_eq_true, ne_lt0, ne_lt1, ne_lt2, ne_lt3, ne_lt4] at O | skip)
    (try clear cs)
    (try clear v1)
    (try clear v2)
    (try clear v3)
  refine takeH (i := 0) (v := ?v1_1) rfl (by kernel_rfl) (by kernel_rfl) (by kernel_rfl) (fun _ _ _ h => h) (by rfl) ?y1_1 (O.sel [false, false, true, false, true, true]) ?r1_1
  case y1_1 =>
    intro WW hSw
    (go_simp) <;> (with_reducible rfl)
  case' r1_1 =>
    try simp only [Act.put, List.setIfInBounds_toArray, List.set_cons_zero, List.set_cons_succ]
  refine takeH (i := 1) (v := ?v1_2) rfl (by kernel_rfl) (by kernel_rfl) (by kernel_rfl) (fun _ _ _ h => h) (by rfl) ?y1_2 (O.sel [false, false, true, false, true, true]) ?r1_2
  case y1_2 =>
    intro WW hSw
    (go_simp) <;> (with_reducible rfl)
  case' r1_2 =>
    try simp only [Act.put, List.setIfInBounds_toArray, List.set_cons_zero, List.set_cons_succ]
  refine takeH (i := 2) (v := ?v1_3) rfl (by kernel_rfl) (by kernel_rfl) (by kernel_rfl) (fun _ _ _ h => h) (by rfl) ?y1_3 (O.sel [false, false, true, false, true, true]) ?r1_3
  case y1_3 =>
    intro WW hSw
    (go_simp) <;> (with_reducible rfl)
  case' r1_3 =>
    try simp only [Act.put, List.setIfInBounds_toArray, List.set_cons_zero, List.set_cons_succ]
  refine takeH (i := 3) (v := ?v1_4) rfl (by kernel_rfl) (by kernel_rfl) (by kernel_rfl) (fun _ _ _ h => h) (by rfl) ?y1_4 (O.sel [false, false, true, false, true, true]) ?r1_4
  case y1_4 =>
    intro WW hSw
    replace hSw : Mem _ _ WW _ := hSw
    have cs := hSw.facts
    simp only [sel, factsP, cellsP, roomP, foots_cons, foots_nil, foots_append, foot_pt, ptb, ptb_mapA, foot_mapA, factsP_mapA, foot_bun, List.append_nil, List.nil_append, List.cons_append, List.nodup_cons, List.nodup_nil, List.mem_cons, List.not_mem_nil, List.mem_singleton, List.forall_mem_cons, not_or, not_false_eq_true, and_true, true_and, or_false, false_or, forall_eq_or_imp, forall_eq, implies_true, Nat.zero_add, Nat.reduceAdd, and_assoc, ptb_listA, factsP_listA, ptb_fam, factsP_fam, ptb_propA, factsP_propA, ptb_learnA, factsP_learnA, ptb_tabA, factsP_tabA, Nat.mul_one, sentCells, ptrCells] at cs
    have v1 := (listA_at (cs := ptrCells) (fun _ => rfl) (hSw.hold (listA 75 1 ptrCells (some ⟨gt, 0, none⟩) c1 (tabs.map (·.1))) (by simp [sel])) HTB.out)
    try simp only [cellsQ, roomP, and_assoc, and_true, true_and, Nat.add_zero, Nat.zero_add, Nat.reduceAdd, factsP, cellsP, roomP, foots_cons, foots_nil, foots_append, foot_pt, ptb, ptb_mapA, foot_mapA, factsP_mapA, foot_bun, List.append_nil, List.nil_append, List.cons_append, List.nodup_cons, List.nodup_nil, List.mem_cons, List.not_mem_nil, List.mem_singleton, List.forall_mem_cons, not_or, not_false_eq_true, and_true, true_and, or_false, false_or, forall_eq_or_imp, forall_eq, implies_true, Nat.zero_add, Nat.reduceAdd, and_assoc, ptb_listA, factsP_listA, ptb_fam, factsP_fam, ptb_propA, factsP_propA, ptb_learnA, factsP_learnA, ptb_tabA, factsP_tabA, Nat.mul_one, sentCells, ptrCells] at v1
    (go_simp) <;> (with_reducible rfl)
  case' r1_4 =>
    try simp only [Act.put, List.setIfInBounds_toArray, List.set_cons_zero, List.set_cons_succ]
  refine takeH (i := 4) (v := ?v1_5) rfl (by kernel_rfl) (by kernel_rfl) (by kernel_rfl) (fun _ _ _ h => h) (by rfl) ?y1_5 (O.sel [false, false, true, false, true, true]) ?r1_5
  case y1_5 =>
    intro WW hSw
    (go_simp) <;> (with_reducible rfl)
  case' r1_5 =>
    try simp only [Act.put, List.setIfInBounds_toArray, List.set_cons_zero, List.set_cons_succ]
  refine takeH (i := 5) (v := ?v1_6) rfl (by kernel_rfl) (by kernel_rfl) (by kernel_rfl) (fun _ _ _ h => h) (by rfl) ?y1_6 (O.sel [false, false, true, false, true, true]) ?r1_6
  case y1_6 =>
    intro WW hSw
    replace hSw : Mem _ _ WW _ := hSw
    have cs := hSw.facts
    simp only [sel, factsP, cellsP, roomP, foots_cons, foots_nil, foots_append, foot_pt, ptb, ptb_mapA, foot_mapA, factsP_mapA, foot_bun, List.append_nil, List.nil_append, List.cons_append, List.nodup_cons, List.nodup_nil, List.mem_cons, List.not_mem_nil, List.mem_singleton, List.forall_mem_cons, not_or, not_false_eq_true, and_true, true_and, or_false, false_or, forall_eq_or_imp, forall_eq, implies_true, Nat.zero_add, Nat.reduceAdd, and_assoc, ptb_listA, factsP_listA, ptb_fam, factsP_fam, ptb_propA, factsP_propA, ptb_learnA, factsP_learnA, ptb_tabA, factsP_tabA, Nat.mul_one, sentCells, ptrCells] at cs
    have v1 := (listA_at (cs := ptrCells) (fun _ => rfl) (hSw.hold (listA 75 1 ptrCells (some ⟨gt, 0, none⟩) c1 (tabs.map (·.1))) (by simp [sel])) HTB.out)
    try simp only [cellsQ, roomP, and_assoc, and_true, true_and, Nat.add_zero, Nat.zero_add, Nat.reduceAdd, factsP, cellsP, roomP, foots_cons, foots_nil, foots_append, foot_pt, ptb, ptb_mapA, foot_mapA, factsP_mapA, foot_bun, List.append_nil, List.nil_append, List.cons_append, List.nodup_cons, List.nodup_nil, List.mem_cons, List.not_mem_nil, List.mem_singleton, List.forall_mem_cons, not_or, not_false_eq_true, and_true, true_and, or_false, false_or, forall_eq_or_imp, forall_eq, implies_true, Nat.zero_add, Nat.reduceAdd, and_assoc, ptb_listA, factsP_listA, ptb_fam, factsP_fam, ptb_propA, factsP_propA, ptb_learnA, factsP_learnA, ptb_tabA, factsP_tabA, Nat.mul_one, sentCells, ptrCells] at v1
    (go_simp) <;> (with_reducible rfl)
  case' r1_6 =>
    try simp only [Act.put, List.setIfInBounds_toArray, List.set_cons_zero, List.set_cons_succ]
  refine takeH (i := 6) (v := ?v1_7) rfl (by kernel_rfl) (by kernel_rfl) (by kernel_rfl) (fun _ _ _ h => h) (by rfl) ?y1_7 (O.sel [false, false, true, false, true, true]) ?r1_7
  case y1_7 =>
    intro WW hSw
    replace hSw : Mem _ _ WW _ := hSw
    have cs := hSw.facts
    simp only [sel, factsP, cellsP, roomP, foots_cons, foots_nil, foots_append, foot_pt, ptb, ptb_mapA, foot_mapA, factsP_mapA, foot_bun, List.append_nil, List.nil_append, List.cons_append, List.nodup_cons, List.nodup_nil, List.mem_cons, List.not_mem_nil, List.mem_singleton, List.forall_mem_cons, not_or, not_false_eq_true, and_true, true_and, or_false, false_or, forall_eq_or_imp, forall_eq, implies_true, Nat.zero_add, Nat.reduceAdd, and_assoc, ptb_listA, factsP_listA, ptb_fam, factsP_fam, ptb_propA, factsP_propA, ptb_learnA, factsP_learnA, ptb_tabA, factsP_tabA, Nat.mul_one, sentCells, ptrCells] at cs
    have v1 := (listA_at (cs := ptrCells) (fun _ => rfl) (hSw.hold (listA 75 1 ptrCells (some ⟨gt, 0, none⟩) c1 (tabs.map (·.1))) (by simp [sel])) HTB.out)
    try simp only [cellsQ, roomP, and_assoc, and_true, true_and, Nat.add_zero, Nat.zero_add, Nat.reduceAdd, factsP, cellsP, roomP, foots_cons, foots_nil, foots_append, foot_pt, ptb, ptb_mapA, foot_mapA, factsP_mapA, foot_bun, List.append_nil, List.nil_append, List.cons_append, List.nodup_cons, List.nodup_nil, List.mem_cons, List.not_mem_nil, List.mem_singleton, List.forall_mem_cons, not_or, not_false_eq_true, and_true, true_and, or_false, false_or, forall_eq_or_imp, forall_eq, implies_true, Nat.zero_add, Nat.reduceAdd, and_assoc, ptb_listA, factsP_listA, ptb_fam, factsP_fam, ptb_propA, factsP_propA, ptb_learnA, factsP_learnA, ptb_tabA, factsP_tabA, Nat.mul_one, sentCells, ptrCells] at v1
    (go_simp) <;> (with_reducible rfl)
  case' r1_7 =>
    try simp only [Act.put, List.setIfInBounds_toArray, List.set_cons_zero, List.set_cons_succ]
  refine takeH (i := 7) (v := ?v1_8) rfl (by kernel_rfl) (by kernel_rfl) (by kernel_rfl) (fun _ _ _ h => h) (by rfl) ?y1_8 (O.sel [false, false, true, false, true, true]) ?r1_8
  case y1_8 =>
    intro WW hSw
    replace hSw : Mem _ _ WW _ := hSw
    have cs := hSw.facts
    simp only [sel, factsP, cellsP, roomP, foots_cons, foots_nil, foots_append, foot_pt, ptb, ptb_mapA, foot_mapA, factsP_mapA, foot_bun, List.append_nil, List.nil_append, List.cons_append, List.nodup_cons, List.nodup_nil, List.mem_cons, List.not_mem_nil, List.mem_singleton, List.forall_mem_cons, not_or, not_false_eq_true, and_true, true_and, or_false, false_or, forall_eq_or_imp, forall_eq, implies_true, Nat.zero_add, Nat.reduceAdd, and_assoc, ptb_listA, factsP_listA, ptb_fam, factsP_fam, ptb_propA, factsP_propA, ptb_learnA, factsP_learnA, ptb_tabA, factsP_tabA, Nat.mul_one, sentCells, ptrCells] at cs
    have v1 := (listA_at (cs := ptrCells) (fun _ => rfl) (hSw.hold (listA 75 1 ptrCells (some ⟨gt, 0, none⟩) c1 (tabs.map (·.1))) (by simp [sel])) HTB.out)
    try simp only [cellsQ, roomP, and_assoc, and_true, true_and, Nat.add_zero, Nat.zero_add, Nat.reduceAdd, factsP, cellsP, roomP, foots_cons, foots_nil, foots_append, foot_pt, ptb, ptb_mapA, foot_mapA, factsP_mapA, foot_bun, List.append_nil, List.nil_append, List.cons_append, List.nodup_cons, List.nodup_nil, List.mem_cons, List.not_mem_nil, List.mem_singleton, List.forall_mem_cons, not_or, not_false_eq_true, and_true, true_and, or_false, false_or, forall_eq_or_imp, forall_eq, implies_true, Nat.zero_add, Nat.reduceAdd, and_assoc, ptb_listA, factsP_listA, ptb_fam, factsP_fam, ptb_propA, factsP_propA, ptb_learnA, factsP_learnA, ptb_tabA, factsP_tabA, Nat.mul_one, sentCells, ptrCells] at v1
    (go_simp) <;> (with_reducible rfl)
  case' r1_8 =>
    try simp only [Act.put, List.setIfInBounds_toArray, List.set_cons_zero, List.set_cons_succ]
  refine takeH (i := 8) (v := ?v1_9) rfl (by kernel_rfl) (by kernel_rfl) (by kernel_rfl) (fun _ _ _ h => h) (by rfl) ?y1_9 (O.sel [false, false, true, false, true, true]) ?r1_9
  case y1_9 =>
    intro WW hSw
    (go_simp) <;> (with_reducible rfl)
  case' r1_9 =>
    try simp only [Act.put, List.setIfInBounds_toArray, List.set_cons_zero, List.set_cons_succ]
  refine takeH (i := 9) (v := ?v1_10) rfl (by kernel_rfl) (by kernel_rfl) (by kernel_rfl) (fun _ _ _ h => h) (by rfl) ?y1_10 (O.sel [false, false, true, false, true, true]) ?r1_10
  case y1_10 =>
    intro WW hSw
    (go_simp) <;> (with_reducible rfl)
  case' r1_10 =>
    try simp only [Act.put, List.setIfInBounds_toArray, List.set_cons_zero, List.set_cons_succ]
  refine takeH (i := 10) (v := ?v1_11) rfl (by kernel_rfl) (by kernel_rfl) (by kernel_rfl) (fun _ _ _ h => h) (by rfl) ?y1_11 (O.sel [false, false, true, false, true, true]) ?r1_11
  case y1_11 =>
    intro WW hSw
    replace hSw : Mem _ _ WW _ := hSw
    have cs := hSw.facts
    simp only [sel, factsP, cellsP, roomP, foots_cons, foots_nil, foots_append, foot_pt, ptb, ptb_mapA, foot_mapA, factsP_mapA, foot_bun, List.append_nil, List.nil_append, List.cons_append, List.nodup_cons, List.nodup_nil, List.mem_cons, List.not_mem_nil, List.mem_singleton, List.forall_mem_cons, not_or, not_false_eq_true, and_true, true_and, or_false, false_or, forall_eq_or_imp, forall_eq, implies_true, Nat.zero_add, Nat.reduceAdd, and_assoc, ptb_listA, factsP_listA, ptb_fam, factsP_fam, ptb_propA, factsP_propA, ptb_learnA, factsP_learnA, ptb_tabA, factsP_tabA, Nat.mul_one, sentCells, ptrCells] at cs
    have v1 := (listA_at (cs := ptrCells) (fun _ => rfl) (hSw.hold (listA 75 1 ptrCells (some ⟨gt, 0, none⟩) c1 (tabs.map (·.1))) (by simp [sel])) HTB.out)
    try simp only [cellsQ, roomP, and_assoc, and_true, true_and, Nat.add_zero, Nat.zero_add, Nat.reduceAdd, factsP, cellsP, roomP, foots_cons, foots_nil, foots_append, foot_pt, ptb, ptb_mapA, foot_mapA, factsP_mapA, foot_bun, List.append_nil, List.nil_append, List.cons_append, List.nodup_cons, List.nodup_nil, List.mem_cons, List.not_mem_nil, List.mem_singleton, List.forall_mem_cons, not_or, not_false_eq_true, and_true, true_and, or_false, false_or, forall_eq_or_imp, forall_eq, implies_true, Nat.zero_add, Nat.reduceAdd, and_assoc, ptb_listA, factsP_listA, ptb_fam, factsP_fam, ptb_propA, factsP_propA, ptb_learnA, factsP_learnA, ptb_tabA, factsP_tabA, Nat.mul_one, sentCells, ptrCells] at v1
    (go_simp) <;> (with_reducible rfl)
  case' r1_11 =>
    try simp only [Act.put, List.setIfInBounds_toArray, List.set_cons_zero, List.set_cons_succ]
  apply cutT2
  case main =>
    intro hT1_0
    apply cutT1
    case main =>
      intro hT1_1
      apply cutT1
      case main =>
        intro hT1_2
        apply cutT2
        case main =>
          intro hT1_3
          refine wpAnyH_ready (rs := [11, 17, 18]) (by kernel_rfl) (by simp) ?_
          refine consH rfl (fun K hK => ?_) ?_
          · have cs := O.facts
            simp only [factsP, cellsP, roomP, foots_cons, foots_nil, foots_append, foot_pt, ptb, ptb_mapA, foot_mapA, factsP_mapA, foot_bun, List.append_nil, List.nil_append, List.cons_append, List.nodup_cons, List.nodup_nil, List.mem_cons, List.not_mem_nil, List.mem_singleton, List.forall_mem_cons, not_or, not_false_eq_true, and_true, true_and, or_false, false_or, forall_eq_or_imp, forall_eq, implies_true, Nat.zero_add, Nat.reduceAdd, and_assoc, ptb_listA, factsP_listA, ptb_fam, factsP_fam, ptb_propA, factsP_propA, ptb_learnA, factsP_learnA, ptb_tabA, factsP_tabA, Nat.mul_one, sentCells, ptrCells] at cs
            have v1 := (listA_at (cs := ptrCells) (fun _ => rfl) (O.hold (listA 75 1 ptrCells (some ⟨gt, 0, none⟩) c1 (tabs.map (·.1))) (by simp [sel])) HTB.out)
            try simp only [cellsQ, roomP, and_assoc, and_true, true_and, Nat.add_zero, Nat.zero_add, Nat.reduceAdd, factsP, cellsP, roomP, foots_cons, foots_nil, foots_append, foot_pt, ptb, ptb_mapA, foot_mapA, factsP_mapA, foot_bun, List.append_nil, List.nil_append, List.cons_append, List.nodup_cons, List.nodup_nil, List.mem_cons, List.not_mem_nil, List.mem_singleton, List.forall_mem_cons, not_or, not_false_eq_true, and_true, true_and, or_false, false_or, forall_eq_or_imp, forall_eq, implies_true, Nat.zero_add, Nat.reduceAdd, and_assoc, ptb_listA, factsP_listA, ptb_fam, factsP_fam, ptb_propA, factsP_propA, ptb_learnA, factsP_learnA, ptb_tabA, factsP_tabA, Nat.mul_one, sentCells, ptrCells] at v1
            go_simp
            apply Mem.atCall
            case h => repeat' (first | (with_reducible exact O) | (with_reducible apply Mem.drew) | (with_reducible apply Mem.drewN) | (with_reducible apply Mem.ext) | (with_reducible apply Mem.alloc) | (with_reducible apply Mem.setCell) | (simp only [ptb, ptb_upd, foots_cons, List.mem_cons, World.size_alloc, size_ext, World.size_setCell, true_or, or_true, eq_self_iff_true, ptb_listA, ptb_fam, ptb_propA, ptb_learnA, ptb_tabA]))
            intro w1_12 O'
            (try clear O)
            have O := O'
            clear O'
            (first | simp only [sel, rst, List.cons_append, List.nil_append, World.size_alloc, size_ext, World.size_setCell, size_setMap, World.size_drew, size_drewN, upd, List.set_cons_zero, List.set_cons_succ, if_true, if_false, reduceIte, not_false_eq_true, ne_lt0, ne_lt1, ne_lt2, ne_lt3, ne_lt4, cs] at O | simp only [sel, rst, List.cons_append, List.nil_append, World.size_alloc, size_ext, World.size_setCell, size_setMap, World.size_drew, size_drewN, upd, List.set_cons_zero, List.set_cons_succ, if_true, if_false, reduceIte, not_false_eq_true, ne_lt0, ne_lt1, ne_lt2, ne_lt3, ne_lt4] at O | skip)
            (try clear cs)
            (try clear v1)
            (try clear v2)
            (try clear v3)
            refine (PR.out _ (O.pre [true])).mono ?_
            rintro e w1_12' ⟨rfl, o⟩
            replace O := O.callp [true] o
            clear o
            simp only [put, List.cons_append, List.nil_append] at O
            go_wp2_with fail
            refine hK.out _ _ (O.sel [false, false, true, false, true, true]) (fun _ => ?_)
            clear hK K
            refine takeH (i := 12) (v := ?v1_13) rfl (by kernel_rfl) (by kernel_rfl) (by kernel_rfl) (fun _ _ _ h => h) (by rfl) ?y1_13 (O.sel [false, false, true, false, true, true]) ?r1_13
            case y1_13 =>
              intro WW hSw
              (go_simp) <;> (with_reducible rfl)
            case' r1_13 =>
              try simp only [Act.put, List.setIfInBounds_toArray, List.set_cons_zero, List.set_cons_succ]
            refine takeH (i := 13) (v := ?v1_14) rfl (by kernel_rfl) (by kernel_rfl) (by kernel_rfl) (fun _ _ _ h => h) (by rfl) ?y1_14 (O.sel [false, false, true, false, true, true]) ?r1_14
            case y1_14 =>
              intro WW hSw
              (go_simp) <;> (with_reducible rfl)
            case' r1_14 =>
              try simp only [Act.put, List.setIfInBounds_toArray, List.set_cons_zero, List.set_cons_succ]
            refine takeH (i := 14) (v := ?v1_15) rfl (by kernel_rfl) (by kernel_rfl) (by kernel_rfl) (fun _ _ _ h => h) (by rfl) ?y1_15 (O.sel [false, false, true, false, true, true]) ?r1_15
            case y1_15 =>
              intro WW hSw
              (go_simp) <;> (with_reducible rfl)
            case' r1_15 =>
              try simp only [Act.put, List.setIfInBounds_toArray, List.set_cons_zero, List.set_cons_succ]
            refine takeH (i := 15) (v := ?v1_16) rfl (by kernel_rfl) (by kernel_rfl) (by kernel_rfl) (fun _ _ _ h => h) (by rfl) ?y1_16 (O.sel [false, false, true, false, true, true]) ?r1_16
            case y1_16 =>
              intro WW hSw
              (go_simp) <;> (with_reducible rfl)
            case' r1_16 =>
              try simp only [Act.put, List.setIfInBounds_toArray, List.set_cons_zero, List.set_cons_succ]
            refine takeH (i := 16) (v := ?v1_17) rfl (by kernel_rfl) (by kernel_rfl) (by kernel_rfl) (fun _ _ _ h => h) (by rfl) ?y1_17 (O.sel [false, false, true, false, true, true]) ?r1_17
            case y1_17 =>
              intro WW hSw
              (go_simp) <;> (with_reducible rfl)
            case' r1_17 =>
              try simp only [Act.put, List.setIfInBounds_toArray, List.set_cons_zero, List.set_cons_succ]
            refine wpAnyH_ready (rs := [17, 18]) (by kernel_rfl) (by simp) ?_
            refine consH rfl (fun K hK => ?_) ?_
            · have cs := O.facts
              simp only [factsP, cellsP, roomP, foots_cons, foots_nil, foots_append, foot_pt, ptb, ptb_mapA, foot_mapA, factsP_mapA, foot_bun, List.append_nil, List.nil_append, List.cons_append, List.nodup_cons, List.nodup_nil, List.mem_cons, List.not_mem_nil, List.mem_singleton, List.forall_mem_cons, not_or, not_false_eq_true, and_true, true_and, or_false, false_or, forall_eq_or_imp, forall_eq, implies_true, Nat.zero_add, Nat.reduceAdd, and_assoc, ptb_listA, factsP_listA, ptb_fam, factsP_fam, ptb_propA, factsP_propA, ptb_learnA, factsP_learnA, ptb_tabA, factsP_tabA, Nat.mul_one, sentCells, ptrCells] at cs
              have v1 := (listA_at (cs := ptrCells) (fun _ => rfl) (O.hold (listA 75 1 ptrCells (some ⟨gt, 0, none⟩) c1 (tabs.map (·.1))) (by simp [sel])) HTB.out)
              try simp only [cellsQ, roomP, and_assoc, and_true, true_and, Nat.add_zero, Nat.zero_add, Nat.reduceAdd, factsP, cellsP, roomP, foots_cons, foots_nil, foots_append, foot_pt, ptb, ptb_mapA, foot_mapA, factsP_mapA, foot_bun, List.append_nil, List.nil_append, List.cons_append, List.nodup_cons, List.nodup_nil, List.mem_cons, List.not_mem_nil, List.mem_singleton, List.forall_mem_cons, not_or, not_false_eq_true, and_true, true_and, or_false, false_or, forall_eq_or_imp, forall_eq, implies_true, Nat.zero_add, Nat.reduceAdd, and_assoc, ptb_listA, factsP_listA, ptb_fam, factsP_fam, ptb_propA, factsP_propA, ptb_learnA, factsP_learnA, ptb_tabA, factsP_tabA, Nat.mul_one, sentCells, ptrCells] at v1
              go_simp
              apply Mem.atK
              case h => repeat' (first | (with_reducible exact O) | (with_reducible apply Mem.drew) | (with_reducible apply Mem.drewN) | (with_reducible apply Mem.ext) | (with_reducible apply Mem.alloc) | (with_reducible apply Mem.setCell) | (simp only [ptb, ptb_upd, foots_cons, List.mem_cons, World.size_alloc, size_ext, World.size_setCell, true_or, or_true, eq_self_iff_true, ptb_listA, ptb_fam, ptb_propA, ptb_learnA, ptb_tabA]))
              intro w1_18 O'
              (try clear O)
              have O := O'
              clear O'
              (first | simp only [sel, rst, List.cons_append, List.nil_append, World.size_alloc, size_ext, World.size_setCell, size_setMap, World.size_drew, size_drewN, upd, List.set_cons_zero, List.set_cons_succ, if_true, if_false, reduceIte, not_false_eq_true, ne_lt0, ne_lt1, ne_lt2, ne_lt3, ne_lt4, cs] at O | simp only [sel, rst, List.cons_append, List.nil_append, World.size_alloc, size_ext, World.size_setCell, size_setMap, World.size_drew, size_drewN, upd, List.set_cons_zero, List.set_cons_succ, if_true, if_false, reduceIte, not_false_eq_true, ne_lt0, ne_lt1, ne_lt2, ne_lt3, ne_lt4] at O | skip)
              (try clear cs)
              (try clear v1)
              (try clear v2)
              (try clear v3)
              generalize w1_12'.heap.size = p1_19 at O ⊢
              refine hK.out _ _ (O.sel [false, false, false, true, false, true, true]) (fun _ => ?_)
              clear hK K
              revert O
              exact hT1_1.out p1_19 w1_18
            refine consH rfl (fun K hK => ?_) ?_
            · have cs := O.facts
              simp only [factsP, cellsP, roomP, foots_cons, foots_nil, foots_append, foot_pt, ptb, ptb_mapA, foot_mapA, factsP_mapA, foot_bun, List.append_nil, List.nil_append, List.cons_append, List.nodup_cons, List.nodup_nil, List.mem_cons, List.not_mem_nil, List.mem_singleton, List.forall_mem_cons, not_or, not_false_eq_true, and_true, true_and, or_false, false_or, forall_eq_or_imp, forall_eq, implies_true, Nat.zero_add, Nat.reduceAdd, and_assoc, ptb_listA, factsP_listA, ptb_fam, factsP_fam, ptb_propA, factsP_propA, ptb_learnA, factsP_learnA, ptb_tabA, factsP_tabA, Nat.mul_one, sentCells, ptrCells] at cs
              have v1 := (listA_at (cs := ptrCells) (fun _ => rfl) (O.hold (listA 75 1 ptrCells (some ⟨gt, 0, none⟩) c1 (tabs.map (·.1))) (by simp [sel])) HTB.out)
              try simp only [cellsQ, roomP, and_assoc, and_true, true_and, Nat.add_zero, Nat.zero_add, Nat.reduceAdd, factsP, cellsP, roomP, foots_cons, foots_nil, foots_append, foot_pt, ptb, ptb_mapA, foot_mapA, factsP_mapA, foot_bun, List.append_nil, List.nil_append, List.cons_append, List.nodup_cons, List.nodup_nil, List.mem_cons, List.not_mem_nil, List.mem_singleton, List.forall_mem_cons, not_or, not_false_eq_true, and_true, true_and, or_false, false_or, forall_eq_or_imp, forall_eq, implies_true, Nat.zero_add, Nat.reduceAdd, and_assoc, ptb_listA, factsP_listA, ptb_fam, factsP_fam, ptb_propA, factsP_propA, ptb_learnA, factsP_learnA, ptb_tabA, factsP_tabA, Nat.mul_one, sentCells, ptrCells] at v1
              go_simp
              apply Mem.atK
              case h => repeat' (first | (with_reducible exact O) | (with_reducible apply Mem.drew) | (with_reducible apply Mem.drewN) | (with_reducible apply Mem.ext) | (with_reducible apply Mem.alloc) | (with_reducible apply Mem.setCell) | (simp only [ptb, ptb_upd, foots_cons, List.mem_cons, World.size_alloc, size_ext, World.size_setCell, true_or, or_true, eq_self_iff_true, ptb_listA, ptb_fam, ptb_propA, ptb_learnA, ptb_tabA]))
              intro w1_20 O'
              (try clear O)
              have O := O'
              clear O'
              (first | simp only [sel, rst, List.cons_append, List.nil_append, World.size_alloc, size_ext, World.size_setCell, size_setMap, World.size_drew, size_drewN, upd, List.set_cons_zero, List.set_cons_succ, if_true, if_false, reduceIte, not_false_eq_true, ne_lt0, ne_lt1, ne_lt2, ne_lt3, ne_lt4, cs] at O | simp only [sel, rst, List.cons_append, List.nil_append, World.size_alloc, size_ext, World.size_setCell, size_setMap, World.size_drew, size_drewN, upd, List.set_cons_zero, List.set_cons_succ, if_true, if_false, reduceIte, not_false_eq_true, ne_lt0, ne_lt1, ne_lt2, ne_lt3, ne_lt4] at O | skip)
              (try clear cs)
              (try clear v1)
              (try clear v2)
              (try clear v3)
              generalize w1_12'.heap.size = p1_21 at O ⊢
              refine hK.out _ _ (O.sel [false, false, false, true, false, true, true]) (fun _ => ?_)
              clear hK K
              revert O
              exact hT1_2.out p1_21 w1_20
            exact AllReadyH.nil
          refine consH rfl (fun K hK => ?_) ?_
          · have cs := O.facts
            simp only [factsP, cellsP, roomP, foots_cons, foots_nil, foots_append, foot_pt, ptb, ptb_mapA, foot_mapA, factsP_mapA, foot_bun, List.append_nil, List.nil_append, List.cons_append, List.nodup_cons, List.nodup_nil, List.mem_cons, List.not_mem_nil, List.mem_singleton, List.forall_mem_cons, not_or, not_false_eq_true, and_true, true_and, or_false, false_or, forall_eq_or_imp, forall_eq, implies_true, Nat.zero_add, Nat.reduceAdd, and_assoc, ptb_listA, factsP_listA, ptb_fam, factsP_fam, ptb_propA, factsP_propA, ptb_learnA, factsP_learnA, ptb_tabA, factsP_tabA, Nat.mul_one, sentCells, ptrCells] at cs
            have v1 := (listA_at (cs := ptrCells) (fun _ => rfl) (O.hold (listA 75 1 ptrCells (some ⟨gt, 0, none⟩) c1 (tabs.map (·.1))) (by simp [sel])) HTB.out)
            try simp only [cellsQ, roomP, and_assoc, and_true, true_and, Nat.add_zero, Nat.zero_add, Nat.reduceAdd, factsP, cellsP, roomP, foots_cons, foots_nil, foots_append, foot_pt, ptb, ptb_mapA, foot_mapA, factsP_mapA, foot_bun, List.append_nil, List.nil_append, List.cons_append, List.nodup_cons, List.nodup_nil, List.mem_cons, List.not_mem_nil, List.mem_singleton, List.forall_mem_cons, not_or, not_false_eq_true, and_true, true_and, or_false, false_or, forall_eq_or_imp, forall_eq, implies_true, Nat.zero_add, Nat.reduceAdd, and_assoc, ptb_listA, factsP_listA, ptb_fam, factsP_fam, ptb_propA, factsP_propA, ptb_learnA, factsP_learnA, ptb_tabA, factsP_tabA, Nat.mul_one, sentCells, ptrCells] at v1
            go_simp
            apply Mem.atK
            case h => repeat' (first | (with_reducible exact O) | (with_reducible apply Mem.drew) | (with_reducible apply Mem.drewN) | (with_reducible apply Mem.ext) | (with_reducible apply Mem.alloc) | (with_reducible apply Mem.setCell) | (simp only [ptb, ptb_upd, foots_cons, List.mem_cons, World.size_alloc, size_ext, World.size_setCell, true_or, or_true, eq_self_iff_true, ptb_listA, ptb_fam, ptb_propA, ptb_learnA, ptb_tabA]))
            intro w1_22 O'
            (try clear O)
            have O := O'
            clear O'
            (first | simp only [sel, rst, List.cons_append, List.nil_append, World.size_alloc, size_ext, World.size_setCell, size_setMap, World.size_drew, size_drewN, upd, List.set_cons_zero, List.set_cons_succ, if_true, if_false, reduceIte, not_false_eq_true, ne_lt0, ne_lt1, ne_lt2, ne_lt3, ne_lt4, cs] at O | simp only [sel, rst, List.cons_append, List.nil_append, World.size_alloc, size_ext, World.size_setCell, size_setMap, World.size_drew, size_drewN, upd, List.set_cons_zero, List.set_cons_succ, if_true, if_false, reduceIte, not_false_eq_true, ne_lt0, ne_lt1, ne_lt2, ne_lt3, ne_lt4] at O | skip)
            (try clear cs)
            (try clear v1)
            (try clear v2)
            (try clear v3)
            generalize wr1.heap.size = p1_23 at O ⊢
            refine hK.out _ _ (O.sel [false, false, false, true, false, true, true]) (fun _ => ?_)
            clear hK K
            refine wpAnyH_ready (rs := [11, 18]) (by kernel_rfl) (by simp) ?_
            refine consH rfl (fun K hK => ?_) ?_
            · have cs := O.facts
              simp only [factsP, cellsP, roomP, foots_cons, foots_nil, foots_append, foot_pt, ptb, ptb_mapA, foot_mapA, factsP_mapA, foot_bun, List.append_nil, List.nil_append, List.cons_append, List.nodup_cons, List.nodup_nil, List.mem_cons, List.not_mem_nil, List.mem_singleton, List.forall_mem_cons, not_or, not_false_eq_true, and_true, true_and, or_false, false_or, forall_eq_or_imp, forall_eq, implies_true, Nat.zero_add, Nat.reduceAdd, and_assoc, ptb_listA, factsP_listA, ptb_fam, factsP_fam, ptb_propA, factsP_propA, ptb_learnA, factsP_learnA, ptb_tabA, factsP_tabA, Nat.mul_one, sentCells, ptrCells] at cs
              have v1 := (listA_at (cs := ptrCells) (fun _ => rfl) (O.hold (listA 75 1 ptrCells (some ⟨gt, 0, none⟩) c1 (tabs.map (·.1))) (by simp [sel])) HTB.out)
              try simp only [cellsQ, roomP, and_assoc, and_true, true_and, Nat.add_zero, Nat.zero_add, Nat.reduceAdd, factsP, cellsP, roomP, foots_cons, foots_nil, foots_append, foot_pt, ptb, ptb_mapA, foot_mapA, factsP_mapA, foot_bun, List.append_nil, List.nil_append, List.cons_append, List.nodup_cons, List.nodup_nil, List.mem_cons, List.not_mem_nil, List.mem_singleton, List.forall_mem_cons, not_or, not_false_eq_true, and_true, true_and, or_false, false_or, forall_eq_or_imp, forall_eq, implies_true, Nat.zero_add, Nat.reduceAdd, and_assoc, ptb_listA, factsP_listA, ptb_fam, factsP_fam, ptb_propA, factsP_propA, ptb_learnA, factsP_learnA, ptb_tabA, factsP_tabA, Nat.mul_one, sentCells, ptrCells] at v1
              go_simp
              apply Mem.atCall
              case h => repeat' (first | (with_reducible exact O) | (with_reducible apply Mem.drew) | (with_reducible apply Mem.drewN) | (with_reducible apply Mem.ext) | (with_reducible apply Mem.alloc) | (with_reducible apply Mem.setCell) | (simp only [ptb, ptb_upd, foots_cons, List.mem_cons, World.size_alloc, size_ext, World.size_setCell, true_or, or_true, eq_self_iff_true, ptb_listA, ptb_fam, ptb_propA, ptb_learnA, ptb_tabA]))
              intro w1_24 O'
              (try clear O)
              have O := O'
              clear O'
              (first | simp only [sel, rst, List.cons_append, List.nil_append, World.size_alloc, size_ext, World.size_setCell, size_setMap, World.size_drew, size_drewN, upd, List.set_cons_zero, List.set_cons_succ, if_true, if_false, reduceIte, not_false_eq_true, ne_lt0, ne_lt1, ne_lt2, ne_lt3, ne_lt4, cs] at O | simp only [sel, rst, List.cons_append, List.nil_append, World.size_alloc, size_ext, World.size_setCell, size_setMap, World.size_drew, size_drewN, upd, List.set_cons_zero, List.set_cons_succ, if_true, if_false, reduceIte, not_false_eq_true, ne_lt0, ne_lt1, ne_lt2, ne_lt3, ne_lt4] at O | skip)
              (try clear cs)
              (try clear v1)
              (try clear v2)
              (try clear v3)
              refine (PR.out _ (O.pre [false, true])).mono ?_
              rintro e w1_24' ⟨rfl, o⟩
              replace O := O.callp [false, true] o
              clear o
              simp only [put, List.cons_append, List.nil_append] at O
              go_wp2_with fail
              refine hK.out _ _ (O.sel [false, false, false, true, false, true, true]) (fun _ => ?_)
              clear hK K
              refine takeH (i := 12) (v := ?v1_25) rfl (by kernel_rfl) (by kernel_rfl) (by kernel_rfl) (fun _ _ _ h => h) (by rfl) ?y1_25 (O.sel [false, false, false, true, false, true, true]) ?r1_25
              case y1_25 =>
                intro WW hSw
                (go_simp) <;> (with_reducible rfl)
              case' r1_25 =>
                try simp only [Act.put, List.setIfInBounds_toArray, List.set_cons_zero, List.set_cons_succ]
              refine takeH (i := 13) (v := ?v1_26) rfl (by kernel_rfl) (by kernel_rfl) (by kernel_rfl) (fun _ _ _ h => h) (by rfl) ?y1_26 (O.sel [false, false, false, true, false, true, true]) ?r1_26
              case y1_26 =>
                intro WW hSw
                (go_simp) <;> (with_reducible rfl)
              case' r1_26 =>
                try simp only [Act.put, List.setIfInBounds_toArray, List.set_cons_zero, List.set_cons_succ]
              refine takeH (i := 14) (v := ?v1_27) rfl (by kernel_rfl) (by kernel_rfl) (by kernel_rfl) (fun _ _ _ h => h) (by rfl) ?y1_27 (O.sel [false, false, false, true, false, true, true]) ?r1_27
              case y1_27 =>
                intro WW hSw
                (go_simp) <;> (with_reducible rfl)
              case' r1_27 =>
                try simp only [Act.put, List.setIfInBounds_toArray, List.set_cons_zero, List.set_cons_succ]
              refine takeH (i := 15) (v := ?v1_28) rfl (by kernel_rfl) (by kernel_rfl) (by kernel_rfl) (fun _ _ _ h => h) (by rfl) ?y1_28 (O.sel [false, false, false, true, false, true, true]) ?r1_28
              case y1_28 =>
                intro WW hSw
                (go_simp) <;> (with_reducible rfl)
              case' r1_28 =>
                try simp only [Act.put, List.setIfInBounds_toArray, List.set_cons_zero, List.set_cons_succ]
              refine takeH (i := 16) (v := ?v1_29) rfl (by kernel_rfl) (by kernel_rfl) (by kernel_rfl) (fun _ _ _ h => h) (by rfl) ?y1_29 (O.sel [false, false, false, true, false, true, true]) ?r1_29
              case y1_29 =>
                intro WW hSw
                (go_simp) <;> (with_reducible rfl)
              case' r1_29 =>
                try simp only [Act.put, List.setIfInBounds_toArray, List.set_cons_zero, List.set_cons_succ]
              revert O
              exact hT1_1.out p1_23 w1_24'
            refine consH rfl (fun K hK => ?_) ?_
            · have cs := O.facts
              simp only [factsP, cellsP, roomP, foots_cons, foots_nil, foots_append, foot_pt, ptb, ptb_mapA, foot_mapA, factsP_mapA, foot_bun, List.append_nil, List.nil_append, List.cons_append, List.nodup_cons, List.nodup_nil, List.mem_cons, List.not_mem_nil, List.mem_singleton, List.forall_mem_cons, not_or, not_false_eq_true, and_true, true_and, or_false, false_or, forall_eq_or_imp, forall_eq, implies_true, Nat.zero_add, Nat.reduceAdd, and_assoc, ptb_listA, factsP_listA, ptb_fam, factsP_fam, ptb_propA, factsP_propA, ptb_learnA, factsP_learnA, ptb_tabA, factsP_tabA, Nat.mul_one, sentCells, ptrCells] at cs
              have v1 := (listA_at (cs := ptrCells) (fun _ => rfl) (O.hold (listA 75 1 ptrCells (some ⟨gt, 0, none⟩) c1 (tabs.map (·.1))) (by simp [sel])) HTB.out)
              try simp only [cellsQ, roomP, and_assoc, and_true, true_and, Nat.add_zero, Nat.zero_add, Nat.reduceAdd, factsP, cellsP, roomP, foots_cons, foots_nil, foots_append, foot_pt, ptb, ptb_mapA, foot_mapA, factsP_mapA, foot_bun, List.append_nil, List.nil_append, List.cons_append, List.nodup_cons, List.nodup_nil, List.mem_cons, List.not_mem_nil, List.mem_singleton, List.forall_mem_cons, not_or, not_false_eq_true, and_true, true_and, or_false, false_or, forall_eq_or_imp, forall_eq, implies_true, Nat.zero_add, Nat.reduceAdd, and_assoc, ptb_listA, factsP_listA, ptb_fam, factsP_fam, ptb_propA, factsP_propA, ptb_learnA, factsP_learnA, ptb_tabA, factsP_tabA, Nat.mul_one, sentCells, ptrCells] at v1
              go_simp
              apply Mem.atK
              case h => repeat' (first | (with_reducible exact O) | (with_reducible apply Mem.drew) | (with_reducible apply Mem.drewN) | (with_reducible apply Mem.ext) | (with_reducible apply Mem.alloc) | (with_reducible apply Mem.setCell) | (simp only [ptb, ptb_upd, foots_cons, List.mem_cons, World.size_alloc, size_ext, World.size_setCell, true_or, or_true, eq_self_iff_true, ptb_listA, ptb_fam, ptb_propA, ptb_learnA, ptb_tabA]))
              intro w1_30 O'
              (try clear O)
              have O := O'
              clear O'
              (first | simp only [sel, rst, List.cons_append, List.nil_append, World.size_alloc, size_ext, World.size_setCell, size_setMap, World.size_drew, size_drewN, upd, List.set_cons_zero, List.set_cons_succ, if_true, if_false, reduceIte, not_false_eq_true, ne_lt0, ne_lt1, ne_lt2, ne_lt3, ne_lt4, cs] at O | simp only [sel, rst, List.cons_append, List.nil_append, World.size_alloc, size_ext, World.size_setCell, size_setMap, World.size_drew, size_drewN, upd, List.set_cons_zero, List.set_cons_succ, if_true, if_false, reduceIte, not_false_eq_true, ne_lt0, ne_lt1, ne_lt2, ne_lt3, ne_lt4] at O | skip)
              (try clear cs)
              (try clear v1)
              (try clear v2)
              (try clear v3)
              generalize w1_22.heap.size = p1_31 at O ⊢
              refine hK.out _ _ (O.sel [false, false, false, false, true, false, true, true]) (fun _ => ?_)
              clear hK K
              revert O
              exact hT1_3.out p1_31 p1_23 w1_30
            exact AllReadyH.nil
          refine consH rfl (fun K hK => ?_) ?_
          · have cs := O.facts
            simp only [factsP, cellsP, roomP, foots_cons, foots_nil, foots_append, foot_pt, ptb, ptb_mapA, foot_mapA, factsP_mapA, foot_bun, List.append_nil, List.nil_append, List.cons_append, List.nodup_cons, List.nodup_nil, List.mem_cons, List.not_mem_nil, List.mem_singleton, List.forall_mem_cons, not_or, not_false_eq_true, and_true, true_and, or_false, false_or, forall_eq_or_imp, forall_eq, implies_true, Nat.zero_add, Nat.reduceAdd, and_assoc, ptb_listA, factsP_listA, ptb_fam, factsP_fam, ptb_propA, factsP_propA, ptb_learnA, factsP_learnA, ptb_tabA, factsP_tabA, Nat.mul_one, sentCells, ptrCells] at cs
            have v1 := (listA_at (cs := ptrCells) (fun _ => rfl) (O.hold (listA 75 1 ptrCells (some ⟨gt, 0, none⟩) c1 (tabs.map (·.1))) (by simp [sel])) HTB.out)
            try simp only [cellsQ, roomP, and_assoc, and_true, true_and, Nat.add_zero, Nat.zero_add, Nat.reduceAdd, factsP, cellsP, roomP, foots_cons, foots_nil, foots_append, foot_pt, ptb, ptb_mapA, foot_mapA, factsP_mapA, foot_bun, List.append_nil, List.nil_append, List.cons_append, List.nodup_cons, List.nodup_nil, List.mem_cons, List.not_mem_nil, List.mem_singleton, List.forall_mem_cons, not_or, not_false_eq_true, and_true, true_and, or_false, false_or, forall_eq_or_imp, forall_eq, implies_true, Nat.zero_add, Nat.reduceAdd, and_assoc, ptb_listA, factsP_listA, ptb_fam, factsP_fam, ptb_propA, factsP_propA, ptb_learnA, factsP_learnA, ptb_tabA, factsP_tabA, Nat.mul_one, sentCells, ptrCells] at v1
            go_simp
            apply Mem.atK
            case h => repeat' (first | (with_reducible exact O) | (with_reducible apply Mem.drew) | (with_reducible apply Mem.drewN) | (with_reducible apply Mem.ext) | (with_reducible apply Mem.alloc) | (with_reducible apply Mem.setCell) | (simp only [ptb, ptb_upd, foots_cons, List.mem_cons, World.size_alloc, size_ext, World.size_setCell, true_or, or_true, eq_self_iff_true, ptb_listA, ptb_fam, ptb_propA, ptb_learnA, ptb_tabA]))
            intro w1_32 O'
            (try clear O)
            have O := O'
            clear O'
            (first | simp only [sel, rst, List.cons_append, List.nil_append, World.size_alloc, size_ext, World.size_setCell, size_setMap, World.size_drew, size_drewN, upd, List.set_cons_zero, List.set_cons_succ, if_true, if_false, reduceIte, not_false_eq_true, ne_lt0, ne_lt1, ne_lt2, ne_lt3, ne_lt4, cs] at O | simp only [sel, rst, List.cons_append, List.nil_append, World.size_alloc, size_ext, World.size_setCell, size_setMap, World.size_drew, size_drewN, upd, List.set_cons_zero, List.set_cons_succ, if_true, if_false, reduceIte, not_false_eq_true, ne_lt0, ne_lt1, ne_lt2, ne_lt3, ne_lt4] at O | skip)
            (try clear cs)
            (try clear v1)
            (try clear v2)
            (try clear v3)
            generalize wr1.heap.size = p1_33 at O ⊢
            refine hK.out _ _ (O.sel [false, false, false, true, false, true, true]) (fun _ => ?_)
            clear hK K
            refine wpAnyH_ready (rs := [11, 17]) (by kernel_rfl) (by simp) ?_
            refine consH rfl (fun K hK => ?_) ?_
            · have cs := O.facts
              simp only [factsP, cellsP, roomP, foots_cons, foots_nil, foots_append, foot_pt, ptb, ptb_mapA, foot_mapA, factsP_mapA, foot_bun, List.append_nil, List.nil_append, List.cons_append, List.nodup_cons, List.nodup_nil, List.mem_cons, List.not_mem_nil, List.mem_singleton, List.forall_mem_cons, not_or, not_false_eq_true, and_true, true_and, or_false, false_or, forall_eq_or_imp, forall_eq, implies_true, Nat.zero_add, Nat.reduceAdd, and_assoc, ptb_listA, factsP_listA, ptb_fam, factsP_fam, ptb_propA, factsP_propA, ptb_learnA, factsP_learnA, ptb_tabA, factsP_tabA, Nat.mul_one, sentCells, ptrCells] at cs
              have v1 := (listA_at (cs := ptrCells) (fun _ => rfl) (O.hold (listA 75 1 ptrCells (some ⟨gt, 0, none⟩) c1 (tabs.map (·.1))) (by simp [sel])) HTB.out)
              try simp only [cellsQ, roomP, and_assoc, and_true, true_and, Nat.add_zero, Nat.zero_add, Nat.reduceAdd, factsP, cellsP, roomP, foots_cons, foots_nil, foots_append, foot_pt, ptb, ptb_mapA, foot_mapA, factsP_mapA, foot_bun, List.append_nil, List.nil_append, List.cons_append, List.nodup_cons, List.nodup_nil, List.mem_cons, List.not_mem_nil, List.mem_singleton, List.forall_mem_cons, not_or, not_false_eq_true, and_true, true_and, or_false, false_or, forall_eq_or_imp, forall_eq, implies_true, Nat.zero_add, Nat.reduceAdd, and_assoc, ptb_listA, factsP_listA, ptb_fam, factsP_fam, ptb_propA, factsP_propA, ptb_learnA, factsP_learnA, ptb_tabA, factsP_tabA, Nat.mul_one, sentCells, ptrCells] at v1
              go_simp
              apply Mem.atCall
              case h => repeat' (first | (with_reducible exact O) | (with_reducible apply Mem.drew) | (with_reducible apply Mem.drewN) | (with_reducible apply Mem.ext) | (with_reducible apply Mem.alloc) | (with_reducible apply Mem.setCell) | (simp only [ptb, ptb_upd, foots_cons, List.mem_cons, World.size_alloc, size_ext, World.size_setCell, true_or, or_true, eq_self_iff_true, ptb_listA, ptb_fam, ptb_propA, ptb_learnA, ptb_tabA]))
              intro w1_34 O'
              (try clear O)
              have O := O'
              clear O'
              (first | simp only [sel, rst, List.cons_append, List.nil_append, World.size_alloc, size_ext, World.size_setCell, size_setMap, World.size_drew, size_drewN, upd, List.set_cons_zero, List.set_cons_succ, if_true, if_false, reduceIte, not_false_eq_true, ne_lt0, ne_lt1, ne_lt2, ne_lt3, ne_lt4, cs] at O | simp only [sel, rst, List.cons_append, List.nil_append, World.size_alloc, size_ext, World.size_setCell, size_setMap, World.size_drew, size_drewN, upd, List.set_cons_zero, List.set_cons_succ, if_true, if_false, reduceIte, not_false_eq_true, ne_lt0, ne_lt1, ne_lt2, ne_lt3, ne_lt4] at O | skip)
              (try clear cs)
              (try clear v1)
              (try clear v2)
              (try clear v3)
              refine (PR.out _ (O.pre [false, true])).mono ?_
              rintro e w1_34' ⟨rfl, o⟩
              replace O := O.callp [false, true] o
              clear o
              simp only [put, List.cons_append, List.nil_append] at O
              go_wp2_with fail
              refine hK.out _ _ (O.sel [false, false, false, true, false, true, true]) (fun _ => ?_)
              clear hK K
              refine takeH (i := 12) (v := ?v1_35) rfl (by kernel_rfl) (by kernel_rfl) (by kernel_rfl) (fun _ _ _ h => h) (by rfl) ?y1_35 (O.sel [false, false, false, true, false, true, true]) ?r1_35
              case y1_35 =>
                intro WW hSw
                (go_simp) <;> (with_reducible rfl)
              case' r1_35 =>
                try simp only [Act.put, List.setIfInBounds_toArray, List.set_cons_zero, List.set_cons_succ]
              refine takeH (i := 13) (v := ?v1_36) rfl (by kernel_rfl) (by kernel_rfl) (by kernel_rfl) (fun _ _ _ h => h) (by rfl) ?y1_36 (O.sel [false, false, false, true, false, true, true]) ?r1_36
              case y1_36 =>
                intro WW hSw
                (go_simp) <;> (with_reducible rfl)
              case' r1_36 =>
                try simp only [Act.put, List.setIfInBounds_toArray, List.set_cons_zero, List.set_cons_succ]
              refine takeH (i := 14) (v := ?v1_37) rfl (by kernel_rfl) (by kernel_rfl) (by kernel_rfl) (fun _ _ _ h => h) (by rfl) ?y1_37 (O.sel [false, false, false, true, false, true, true]) ?r1_37
              case y1_37 =>
                intro WW hSw
                (go_simp) <;> (with_reducible rfl)
              case' r1_37 =>
                try simp only [Act.put, List.setIfInBounds_toArray, List.set_cons_zero, List.set_cons_succ]
              refine takeH (i := 15) (v := ?v1_38) rfl (by kernel_rfl) (by kernel_rfl) (by kernel_rfl) (fun _ _ _ h => h) (by rfl) ?y1_38 (O.sel [false, false, false, true, false, true, true]) ?r1_38
              case y1_38 =>
                intro WW hSw
                (go_simp) <;> (with_reducible rfl)
              case' r1_38 =>
                try simp only [Act.put, List.setIfInBounds_toArray, List.set_cons_zero, List.set_cons_succ]
              refine takeH (i := 16) (v := ?v1_39) rfl (by kernel_rfl) (by kernel_rfl) (by kernel_rfl) (fun _ _ _ h => h) (by rfl) ?y1_39 (O.sel [false, false, false, true, false, true, true]) ?r1_39
              case y1_39 =>
                intro WW hSw
                (go_simp) <;> (with_reducible rfl)
              case' r1_39 =>
                try simp only [Act.put, List.setIfInBounds_toArray, List.set_cons_zero, List.set_cons_succ]
              revert O
              exact hT1_2.out p1_33 w1_34'
            refine consH rfl (fun K hK => ?_) ?_
            · have cs := O.facts
              simp only [factsP, cellsP, roomP, foots_cons, foots_nil, foots_append, foot_pt, ptb, ptb_mapA, foot_mapA, factsP_mapA, foot_bun, List.append_nil, List.nil_append, List.cons_append, List.nodup_cons, List.nodup_nil, List.mem_cons, List.not_mem_nil, List.mem_singleton, List.forall_mem_cons, not_or, not_false_eq_true, and_true, true_and, or_false, false_or, forall_eq_or_imp, forall_eq, implies_true, Nat.zero_add, Nat.reduceAdd, and_assoc, ptb_listA, factsP_listA, ptb_fam, factsP_fam, ptb_propA, factsP_propA, ptb_learnA, factsP_learnA, ptb_tabA, factsP_tabA, Nat.mul_one, sentCells, ptrCells] at cs
              have v1 := (listA_at (cs := ptrCells) (fun _ => rfl) (O.hold (listA 75 1 ptrCells (some ⟨gt, 0, none⟩) c1 (tabs.map (·.1))) (by simp [sel])) HTB.out)
              try simp only [cellsQ, roomP, and_assoc, and_true, true_and, Nat.add_zero, Nat.zero_add, Nat.reduceAdd, factsP, cellsP, roomP, foots_cons, foots_nil, foots_append, foot_pt, ptb, ptb_mapA, foot_mapA, factsP_mapA, foot_bun, List.append_nil, List.nil_append, List.cons_append, List.nodup_cons, List.nodup_nil, List.mem_cons, List.not_mem_nil, List.mem_singleton, List.forall_mem_cons, not_or, not_false_eq_true, and_true, true_and, or_false, false_or, forall_eq_or_imp, forall_eq, implies_true, Nat.zero_add, Nat.reduceAdd, and_assoc, ptb_listA, factsP_listA, ptb_fam, factsP_fam, ptb_propA, factsP_propA, ptb_learnA, factsP_learnA, ptb_tabA, factsP_tabA, Nat.mul_one, sentCells, ptrCells] at v1
              go_simp
              apply Mem.atK
              case h => repeat' (first | (with_reducible exact O) | (with_reducible apply Mem.drew) | (with_reducible apply Mem.drewN) | (with_reducible apply Mem.ext) | (with_reducible apply Mem.alloc) | (with_reducible apply Mem.setCell) | (simp only [ptb, ptb_upd, foots_cons, List.mem_cons, World.size_alloc, size_ext, World.size_setCell, true_or, or_true, eq_self_iff_true, ptb_listA, ptb_fam, ptb_propA, ptb_learnA, ptb_tabA]))
              intro w1_40 O'
              (try clear O)
              have O := O'
              clear O'
              (first | simp only [sel, rst, List.cons_append, List.nil_append, World.size_alloc, size_ext, World.size_setCell, size_setMap, World.size_drew, size_drewN, upd, List.set_cons_zero, List.set_cons_succ, if_true, if_false, reduceIte, not_false_eq_true, ne_lt0, ne_lt1, ne_lt2, ne_lt3, ne_lt4, cs] at O | simp only [sel, rst, List.cons_append, List.nil_append, World.size_alloc, size_ext, World.size_setCell, size_setMap, World.size_drew, size_drewN, upd, List.set_cons_zero, List.set_cons_succ, if_true, if_false, reduceIte, not_false_eq_true, ne_lt0, ne_lt1, ne_lt2, ne_lt3, ne_lt4] at O | skip)
              (try clear cs)
              (try clear v1)
              (try clear v2)
              (try clear v3)
              generalize w1_32.heap.size = p1_41 at O ⊢
              refine hK.out _ _ (O.sel [false, false, false, false, true, false, true, true]) (fun _ => ?_)
              clear hK K
              replace O := O.swap
              revert O
              exact hT1_3.out p1_33 p1_41 w1_40
            exact AllReadyH.nil
          exact AllReadyH.nil
        case' tail =>
          intro q1_42 q1_43 w1_44 O
          refine wpAnyH_ready (rs := [11]) (by kernel_rfl) (by simp) ?_
          refine consH rfl (fun K hK => ?_) AllReadyH.nil
          have cs := O.facts
          simp only [factsP, cellsP, roomP, foots_cons, foots_nil, foots_append, foot_pt, ptb, ptb_mapA, foot_mapA, factsP_mapA, foot_bun, List.append_nil, List.nil_append, List.cons_append, List.nodup_cons, List.nodup_nil, List.mem_cons, List.not_mem_nil, List.mem_singleton, List.forall_mem_cons, not_or, not_false_eq_true, and_true, true_and, or_false, false_or, forall_eq_or_imp, forall_eq, implies_true, Nat.zero_add, Nat.reduceAdd, and_assoc, ptb_listA, factsP_listA, ptb_fam, factsP_fam, ptb_propA, factsP_propA, ptb_learnA, factsP_learnA, ptb_tabA, factsP_tabA, Nat.mul_one, sentCells, ptrCells] at cs
          have v1 := (listA_at (cs := ptrCells) (fun _ => rfl) (O.hold (listA 75 1 ptrCells (some ⟨gt, 0, none⟩) c1 (tabs.map (·.1))) (by simp [sel])) HTB.out)
          try simp only [cellsQ, roomP, and_assoc, and_true, true_and, Nat.add_zero, Nat.zero_add, Nat.reduceAdd, factsP, cellsP, roomP, foots_cons, foots_nil, foots_append, foot_pt, ptb, ptb_mapA, foot_mapA, factsP_mapA, foot_bun, List.append_nil, List.nil_append, List.cons_append, List.nodup_cons, List.nodup_nil, List.mem_cons, List.not_mem_nil, List.mem_singleton, List.forall_mem_cons, not_or, not_false_eq_true, and_true, true_and, or_false, false_or, forall_eq_or_imp, forall_eq, implies_true, Nat.zero_add, Nat.reduceAdd, and_assoc, ptb_listA, factsP_listA, ptb_fam, factsP_fam, ptb_propA, factsP_propA, ptb_learnA, factsP_learnA, ptb_tabA, factsP_tabA, Nat.mul_one, sentCells, ptrCells] at v1
          go_simp
          apply Mem.atCall
          case h => repeat' (first | (with_reducible exact O) | (with_reducible apply Mem.drew) | (with_reducible apply Mem.drewN) | (with_reducible apply Mem.ext) | (with_reducible apply Mem.alloc) | (with_reducible apply Mem.setCell) | (simp only [ptb, ptb_upd, foots_cons, List.mem_cons, World.size_alloc, size_ext, World.size_setCell, true_or, or_true, eq_self_iff_true, ptb_listA, ptb_fam, ptb_propA, ptb_learnA, ptb_tabA]))
          intro w1_45 O'
          (try clear O)
          have O := O'
          clear O'
          (first | simp only [sel, rst, List.cons_append, List.nil_append, World.size_alloc, size_ext, World.size_setCell, size_setMap, World.size_drew, size_drewN, upd, List.set_cons_zero, List.set_cons_succ, if_true, if_false, reduceIte, not_false_eq_true, ne_lt0, ne_lt1, ne_lt2, ne_lt3, ne_lt4, cs] at O | simp only [sel, rst, List.cons_append, List.nil_append, World.size_alloc, size_ext, World.size_setCell, size_setMap, World.size_drew, size_drewN, upd, List.set_cons_zero, List.set_cons_succ, if_true, if_false, reduceIte, not_false_eq_true, ne_lt0, ne_lt1, ne_lt2, ne_lt3, ne_lt4] at O | skip)
          (try clear cs)
          (try clear v1)
          (try clear v2)
          (try clear v3)
          refine (PR.out _ (O.pre [false, false, true])).mono ?_
          rintro e w1_45' ⟨rfl, o⟩
          replace O := O.callp [false, false, true] o
          clear o
          simp only [put, List.cons_append, List.nil_append] at O
          go_wp2_with fail
          refine hK.out _ _ (O.sel [false, false, false, false, true, false, true, true]) (fun _ => ?_)
          clear hK K
          refine takeH (i := 12) (v := ?v1_46) rfl (by kernel_rfl) (by kernel_rfl) (by kernel_rfl) (fun _ _ _ h => h) (by rfl) ?y1_46 (O.sel [false, false, false, false, true, false, true, true]) ?r1_46
          case y1_46 =>
            intro WW hSw
            (go_simp) <;> (with_reducible rfl)
          case' r1_46 =>
            try simp only [Act.put, List.setIfInBounds_toArray, List.set_cons_zero, List.set_cons_succ]
          refine takeH (i := 13) (v := ?v1_47) rfl (by kernel_rfl) (by kernel_rfl) (by kernel_rfl) (fun _ _ _ h => h) (by rfl) ?y1_47 (O.sel [false, false, false, false, true, false, true, true]) ?r1_47
          case y1_47 =>
            intro WW hSw
            (go_simp) <;> (with_reducible rfl)
          case' r1_47 =>
            try simp only [Act.put, List.setIfInBounds_toArray, List.set_cons_zero, List.set_cons_succ]
          refine takeH (i := 14) (v := ?v1_48) rfl (by kernel_rfl) (by kernel_rfl) (by kernel_rfl) (fun _ _ _ h => h) (by rfl) ?y1_48 (O.sel [false, false, false, false, true, false, true, true]) ?r1_48
          case y1_48 =>
            intro WW hSw
            (go_simp) <;> (with_reducible rfl)
          case' r1_48 =>
            try simp only [Act.put, List.setIfInBounds_toArray, List.set_cons_zero, List.set_cons_succ]
          refine takeH (i := 15) (v := ?v1_49) rfl (by kernel_rfl) (by kernel_rfl) (by kernel_rfl) (fun _ _ _ h => h) (by rfl) ?y1_49 (O.sel [false, false, false, false, true, false, true, true]) ?r1_49
          case y1_49 =>
            intro WW hSw
            (go_simp) <;> (with_reducible rfl)
          case' r1_49 =>
            try simp only [Act.put, List.setIfInBounds_toArray, List.set_cons_zero, List.set_cons_succ]
          refine takeH (i := 16) (v := ?v1_50) rfl (by kernel_rfl) (by kernel_rfl) (by kernel_rfl) (fun _ _ _ h => h) (by rfl) ?y1_50 (O.sel [false, false, false, false, true, false, true, true]) ?r1_50
          case y1_50 =>
            intro WW hSw
            (go_simp) <;> (with_reducible rfl)
          case' r1_50 =>
            try simp only [Act.put, List.setIfInBounds_toArray, List.set_cons_zero, List.set_cons_succ]
          revert O
          exact hT1_0.out q1_42 q1_43 w1_45'
      case' tail =>
        intro q1_51 w1_52 O
        refine wpAnyH_ready (rs := [17]) (by kernel_rfl) (by simp) ?_
        refine consH rfl (fun K hK => ?_) AllReadyH.nil
        have cs := O.facts
        simp only [factsP, cellsP, roomP, foots_cons, foots_nil, foots_append, foot_pt, ptb, ptb_mapA, foot_mapA, factsP_mapA, foot_bun, List.append_nil, List.nil_append, List.cons_append, List.nodup_cons, List.nodup_nil, List.mem_cons, List.not_mem_nil, List.mem_singleton, List.forall_mem_cons, not_or, not_false_eq_true, and_true, true_and, or_false, false_or, forall_eq_or_imp, forall_eq, implies_true, Nat.zero_add, Nat.reduceAdd, and_assoc, ptb_listA, factsP_listA, ptb_fam, factsP_fam, ptb_propA, factsP_propA, ptb_learnA, factsP_learnA, ptb_tabA, factsP_tabA, Nat.mul_one, sentCells, ptrCells] at cs
        have v1 := (listA_at (cs := ptrCells) (fun _ => rfl) (O.hold (listA 75 1 ptrCells (some ⟨gt, 0, none⟩) c1 (tabs.map (·.1))) (by simp [sel])) HTB.out)
        try simp only [cellsQ, roomP, and_assoc, and_true, true_and, Nat.add_zero, Nat.zero_add, Nat.reduceAdd, factsP, cellsP, roomP, foots_cons, foots_nil, foots_append, foot_pt, ptb, ptb_mapA, foot_mapA, factsP_mapA, foot_bun, List.append_nil, List.nil_append, List.cons_append, List.nodup_cons, List.nodup_nil, List.mem_cons, List.not_mem_nil, List.mem_singleton, List.forall_mem_cons, not_or, not_false_eq_true, and_true, true_and, or_false, false_or, forall_eq_or_imp, forall_eq, implies_true, Nat.zero_add, Nat.reduceAdd, and_assoc, ptb_listA, factsP_listA, ptb_fam, factsP_fam, ptb_propA, factsP_propA, ptb_learnA, factsP_learnA, ptb_tabA, factsP_tabA, Nat.mul_one, sentCells, ptrCells] at v1
        go_simp
        apply Mem.atK
        case h => repeat' (first | (with_reducible exact O) | (with_reducible apply Mem.drew) | (with_reducible apply Mem.drewN) | (with_reducible apply Mem.ext) | (with_reducible apply Mem.alloc) | (with_reducible apply Mem.setCell) | (simp only [ptb, ptb_upd, foots_cons, List.mem_cons, World.size_alloc, size_ext, World.size_setCell, true_or, or_true, eq_self_iff_true, ptb_listA, ptb_fam, ptb_propA, ptb_learnA, ptb_tabA]))
        intro w1_53 O'
        (try clear O)
        have O := O'
        clear O'
        (first | simp only [sel, rst, List.cons_append, List.nil_append, World.size_alloc, size_ext, World.size_setCell, size_setMap, World.size_drew, size_drewN, upd, List.set_cons_zero, List.set_cons_succ, if_true, if_false, reduceIte, not_false_eq_true, ne_lt0, ne_lt1, ne_lt2, ne_lt3, ne_lt4, cs] at O | simp only [sel, rst, List.cons_append, List.nil_append, World.size_alloc, size_ext, World.size_setCell, size_setMap, World.size_drew, size_drewN, upd, List.set_cons_zero, List.set_cons_succ, if_true, if_false, reduceIte, not_false_eq_true, ne_lt0, ne_lt1, ne_lt2, ne_lt3, ne_lt4] at O | skip)
        (try clear cs)
        (try clear v1)
        (try clear v2)
        (try clear v3)
        generalize w1_52.heap.size = p1_54 at O ⊢
        refine hK.out _ _ (O.sel [false, false, false, false, true, false, true, true]) (fun _ => ?_)
        clear hK K
        replace O := O.swap
        revert O
        exact hT1_0.out q1_51 p1_54 w1_53
    case' tail =>
      intro q1_55 w1_56 O
      refine wpAnyH_ready (rs := [18]) (by kernel_rfl) (by simp) ?_
      refine consH rfl (fun K hK => ?_) AllReadyH.nil
      have cs := O.facts
      simp only [factsP, cellsP, roomP, foots_cons, foots_nil, foots_append, foot_pt, ptb, ptb_mapA, foot_mapA, factsP_mapA, foot_bun, List.append_nil, List.nil_append, List.cons_append, List.nodup_cons, List.nodup_nil, List.mem_cons, List.not_mem_nil, List.mem_singleton, List.forall_mem_cons, not_or, not_false_eq_true, and_true, true_and, or_false, false_or, forall_eq_or_imp, forall_eq, implies_true, Nat.zero_add, Nat.reduceAdd, and_assoc, ptb_listA, factsP_listA, ptb_fam, factsP_fam, ptb_propA, factsP_propA, ptb_learnA, factsP_learnA, ptb_tabA, factsP_tabA, Nat.mul_one, sentCells, ptrCells] at cs
      have v1 := (listA_at (cs := ptrCells) (fun _ => rfl) (O.hold (listA 75 1 ptrCells (some ⟨gt, 0, none⟩) c1 (tabs.map (·.1))) (by simp [sel])) HTB.out)
      try simp only [cellsQ, roomP, and_assoc, and_true, true_and, Nat.add_zero, Nat.zero_add, Nat.reduceAdd, factsP, cellsP, roomP, foots_cons, foots_nil, foots_append, foot_pt, ptb, ptb_mapA, foot_mapA, factsP_mapA, foot_bun, List.append_nil, List.nil_append, List.cons_append, List.nodup_cons, List.nodup_nil, List.mem_cons, List.not_mem_nil, List.mem_singleton, List.forall_mem_cons, not_or, not_false_eq_true, and_true, true_and, or_false, false_or, forall_eq_or_imp, forall_eq, implies_true, Nat.zero_add, Nat.reduceAdd, and_assoc, ptb_listA, factsP_listA, ptb_fam, factsP_fam, ptb_propA, factsP_propA, ptb_learnA, factsP_learnA, ptb_tabA, factsP_tabA, Nat.mul_one, sentCells, ptrCells] at v1
      go_simp
      apply Mem.atK
      case h => repeat' (first | (with_reducible exact O) | (with_reducible apply Mem.drew) | (with_reducible apply Mem.drewN) | (with_reducible apply Mem.ext) | (with_reducible apply Mem.alloc) | (with_reducible apply Mem.setCell) | (simp only [ptb, ptb_upd, foots_cons, List.mem_cons, World.size_alloc, size_ext, World.size_setCell, true_or, or_true, eq_self_iff_true, ptb_listA, ptb_fam, ptb_propA, ptb_learnA, ptb_tabA]))
      intro w1_57 O'
      (try clear O)
      have O := O'
      clear O'
      (first | simp only [sel, rst, List.cons_append, List.nil_append, World.size_alloc, size_ext, World.size_setCell, size_setMap, World.size_drew, size_drewN, upd, List.set_cons_zero, List.set_cons_succ, if_true, if_false, reduceIte, not_false_eq_true, ne_lt0, ne_lt1, ne_lt2, ne_lt3, ne_lt4, cs] at O | simp only [sel, rst, List.cons_append, List.nil_append, World.size_alloc, size_ext, World.size_setCell, size_setMap, World.size_drew, size_drewN, upd, List.set_cons_zero, List.set_cons_succ, if_true, if_false, reduceIte, not_false_eq_true, ne_lt0, ne_lt1, ne_lt2, ne_lt3, ne_lt4] at O | skip)
      (try clear cs)
      (try clear v1)
      (try clear v2)
      (try clear v3)
      generalize w1_56.heap.size = p1_58 at O ⊢
      refine hK.out _ _ (O.sel [false, false, false, false, true, false, true, true]) (fun _ => ?_)
      clear hK K
      revert O
      exact hT1_0.out p1_58 q1_55 w1_57
  case' tail =>
    intro q1_59 q1_60 w1_61 O
  refine wpAnyH_ready (rs := [19]) (by kernel_rfl) (by simp) ?_
  refine consH rfl (fun K hK => ?_) AllReadyH.nil
  have cs := O.facts
  simp only [factsP, cellsP, roomP, foots_cons, foots_nil, foots_append, foot_pt, ptb, ptb_mapA, foot_mapA, factsP_mapA, foot_bun, List.append_nil, List.nil_append, List.cons_append, List.nodup_cons, List.nodup_nil, List.mem_cons, List.not_mem_nil, List.mem_singleton, List.forall_mem_cons, not_or, not_false_eq_true, and_true, true_and, or_false, false_or, forall_eq_or_imp, forall_eq, implies_true, Nat.zero_add, Nat.reduceAdd, and_assoc, ptb_listA, factsP_listA, ptb_fam, factsP_fam, ptb_propA, factsP_propA, ptb_learnA, factsP_learnA, ptb_tabA, factsP_tabA, Nat.mul_one, sentCells, ptrCells] at cs
  have v1 := (listA_at (cs := ptrCells) (fun _ => rfl) (O.hold (listA 75 1 ptrCells (some ⟨gt, 0, none⟩) c1 (tabs.map (·.1))) (by simp [sel])) HTB.out)
  try simp only [cellsQ, roomP, and_assoc, and_true, true_and, Nat.add_zero, Nat.zero_add, Nat.reduceAdd, factsP, cellsP, roomP, foots_cons, foots_nil, foots_append, foot_pt, ptb, ptb_mapA, foot_mapA, factsP_mapA, foot_bun, List.append_nil, List.nil_append, List.cons_append, List.nodup_cons, List.nodup_nil, List.mem_cons, List.not_mem_nil, List.mem_singleton, List.forall_mem_cons, not_or, not_false_eq_true, and_true, true_and, or_false, false_or, forall_eq_or_imp, forall_eq, implies_true, Nat.zero_add, Nat.reduceAdd, and_assoc, ptb_listA, factsP_listA, ptb_fam, factsP_fam, ptb_propA, factsP_propA, ptb_learnA, factsP_learnA, ptb_tabA, factsP_tabA, Nat.mul_one, sentCells, ptrCells] at v1
  go_simp
  apply Mem.atK
  case h => repeat' (first | (with_reducible exact O) | (with_reducible apply Mem.drew) | (with_reducible apply Mem.drewN) | (with_reducible apply Mem.ext) | (with_reducible apply Mem.alloc) | (with_reducible apply Mem.setCell) | (simp only [ptb, ptb_upd, foots_cons, List.mem_cons, World.size_alloc, size_ext, World.size_setCell, true_or, or_true, eq_self_iff_true, ptb_listA, ptb_fam, ptb_propA, ptb_learnA, ptb_tabA]))
  intro w1_62 O'
  (try clear O)
  have O := O'
  clear O'
  (first | simp only [sel, rst, List.cons_append, List.nil_append, World.size_alloc, size_ext, World.size_setCell, size_setMap, World.size_drew, size_drewN, upd, List.set_cons_zero, List.set_cons_succ, if_true, if_false, reduceIte, not_false_eq_true, ne_lt0, ne_lt1, ne_lt2, ne_lt3, ne_lt4, cs] at O | simp only [sel, rst, List.cons_append, List.nil_append, World.size_alloc, size_ext, World.size_setCell, size_setMap, World.size_drew, size_drewN, upd, List.set_cons_zero, List.set_cons_succ, if_true, if_false, reduceIte, not_false_eq_true, ne_lt0, ne_lt1, ne_lt2, ne_lt3, ne_lt4] at O | skip)
  (try clear cs)
  (try clear v1)
  (try clear v2)
  (try clear v3)
  refine hK.out _ _ (O.sel [false, false, false, false, true, false, true, true]) (fun _ => ?_)
  clear hK K
  refine wpAnyH_ready (rs := [20]) (by kernel_rfl) (by simp) ?_
  refine consH rfl (fun K hK => ?_) AllReadyH.nil
  have cs := O.facts
  simp only [factsP, cellsP, roomP, foots_cons, foots_nil, foots_append, foot_pt, ptb, ptb_mapA, foot_mapA, factsP_mapA, foot_bun, List.append_nil, List.nil_append, List.cons_append, List.nodup_cons, List.nodup_nil, List.mem_cons, List.not_mem_nil, List.mem_singleton, List.forall_mem_cons, not_or, not_false_eq_true, and_true, true_and, or_false, false_or, forall_eq_or_imp, forall_eq, implies_true, Nat.zero_add, Nat.reduceAdd, and_assoc, ptb_listA, factsP_listA, ptb_fam, factsP_fam, ptb_propA, factsP_propA, ptb_learnA, factsP_learnA, ptb_tabA, factsP_tabA, Nat.mul_one, sentCells, ptrCells] at cs
  have v1 := (listA_at (cs := ptrCells) (fun _ => rfl) (O.hold (listA 75 1 ptrCells (some ⟨gt, 0, none⟩) c1 (tabs.map (·.1))) (by simp [sel])) HTB.out)
  try simp only [cellsQ, roomP, and_assoc, and_true, true_and, Nat.add_zero, Nat.zero_add, Nat.reduceAdd, factsP, cellsP, roomP, foots_cons, foots_nil, foots_append, foot_pt, ptb, ptb_mapA, foot_mapA, factsP_mapA, foot_bun, List.append_nil, List.nil_append, List.cons_append, List.nodup_cons, List.nodup_nil, List.mem_cons, List.not_mem_nil, List.mem_singleton, List.forall_mem_cons, not_or, not_false_eq_true, and_true, true_and, or_false, false_or, forall_eq_or_imp, forall_eq, implies_true, Nat.zero_add, Nat.reduceAdd, and_assoc, ptb_listA, factsP_listA, ptb_fam, factsP_fam, ptb_propA, factsP_propA, ptb_learnA, factsP_learnA, ptb_tabA, factsP_tabA, Nat.mul_one, sentCells, ptrCells] at v1
  go_simp
  apply Mem.atK
  case h => repeat' (first | (with_reducible exact O) | (with_reducible apply Mem.drew) | (with_reducible apply Mem.drewN) | (with_reducible apply Mem.ext) | (with_reducible apply Mem.alloc) | (with_reducible apply Mem.setCell) | (simp only [ptb, ptb_upd, foots_cons, List.mem_cons, World.size_alloc, size_ext, World.size_setCell, true_or, or_true, eq_self_iff_true, ptb_listA, ptb_fam, ptb_propA, ptb_learnA, ptb_tabA]))
  intro w1_63 O'
  (try clear O)
  have O := O'
  clear O'
  (first | simp only [sel, rst, List.cons_append, List.nil_append, World.size_alloc, size_ext, World.size_setCell, size_setMap, World.size_drew, size_drewN, upd, List.set_cons_zero, List.set_cons_succ, if_true, if_false, reduceIte, not_false_eq_true, ne_lt0, ne_lt1, ne_lt2, ne_lt3, ne_lt4, cs] at O | simp only [sel, rst, List.cons_append, List.nil_append, World.size_alloc, size_ext, World.size_setCell, size_setMap, World.size_drew, size_drewN, upd, List.set_cons_zero, List.set_cons_succ, if_true, if_false, reduceIte, not_false_eq_true, ne_lt0, ne_lt1, ne_lt2, ne_lt3, ne_lt4] at O | skip)
  (try clear cs)
  (try clear v1)
  (try clear v2)
  (try clear v3)
  refine hK.out _ _ (O.sel [false, false, false, false, true, false, true, true]) (fun _ => ?_)
  clear hK K
  refine takeH (i := 21) (v := ?v1_64) rfl (by kernel_rfl) (by kernel_rfl) (by kernel_rfl) (fun _ _ _ h => h) (by rfl) ?y1_64 (O.sel [false, false, false, false, true, false, true, true]) ?r1_64
  case y1_64 =>
    intro WW hSw
    (go_simp) <;> (with_reducible rfl)
  case' r1_64 =>
    try simp only [Act.put, List.setIfInBounds_toArray, List.set_cons_zero, List.set_cons_succ]
  refine takeH (i := 22) (v := ?v1_65) rfl (by kernel_rfl) (by kernel_rfl) (by kernel_rfl) (fun _ _ _ h => h) (by rfl) ?y1_65 (O.sel [false, false, false, false, true, false, true, true]) ?r1_65
  case y1_65 =>
    intro WW hSw
    (go_simp) <;> (with_reducible rfl)
  case' r1_65 =>
    try simp only [Act.put, List.setIfInBounds_toArray, List.set_cons_zero, List.set_cons_succ]
  refine wpAnyH_done (by kernel_rfl) ?_ _
  have HMV := Lib.hid MV
  clear MV PR
  have hlt : mto < tabs.length := (List.getElem?_eq_some_iff.1 HT.out).1
  have O2 := O.front [false, false, true, true]
  simp only [sel, rst, List.cons_append, List.nil_append] at O2
  have O3 : Mem w fp _ (tabF (tb, mb, row') :: fam tabF (tabs.eraseIdx mto) :: _) := O2
  have O4 := (O3.famPut hlt).sink 8
  clear O O2 O3
  have O := O4
  clear O4
  simp only [List.take_succ_cons, List.take_zero, List.drop_succ_cons, List.drop_zero, List.cons_append, List.nil_append] at O
  have e : (tabs.set mto (tb, mb, row')).map (·.2.2) = (tabs.map (·.2.2)).set mto row' := by rw [List.map_set]
  have HE := Lib.hid e
  clear e hlt
  skip
  cases pm
  · have cs := O.facts
    simp only [factsP, cellsP, roomP, foots_cons, foots_nil, foots_append, foot_pt, ptb, ptb_mapA, foot_mapA, factsP_mapA, foot_bun, List.append_nil, List.nil_append, List.cons_append, List.nodup_cons, List.nodup_nil, List.mem_cons, List.not_mem_nil, List.mem_singleton, List.forall_mem_cons, not_or, not_false_eq_true, and_true, true_and, or_false, false_or, forall_eq_or_imp, forall_eq, implies_true, Nat.zero_add, Nat.reduceAdd, and_assoc, ptb_listA, factsP_listA, ptb_fam, factsP_fam, ptb_propA, factsP_propA, ptb_learnA, factsP_learnA, ptb_tabA, factsP_tabA, Nat.mul_one, sentCells, ptrCells] at cs
    go_wp2_with fail
    refine bodyPost_end (results_none rfl _ _ _) rfl ⟨rfl, ?_⟩
    refine ⟨⟨(some ⟨gt, 0, none⟩), c1, A2, c2, A3, c3, (tabs.set mto (tb, mb, row')), props, learns, round, vote, (some ⟨g, 0, none⟩), d2, l2, B3, d3, l3, B4, d4, l4, B5, d5, l5⟩, ?_, ?_, by simp only [PxM.size]; omega, HMO.out, map_set_fst HT.out rfl, rfl⟩
    · have hmv := HMV.out
      simp only [Bool.false_eq_true, if_false] at hmv
      unfold PxM.st
      simp only [HE.out]
      exact hmv
    · rw [← HF.out]
      simp only [PxM.parts, PxM.cells, map_set_fst (f := fun x : Nat × Nat × Rows10 => x.1) (a' := (tb, mb, row')) HT.out rfl]
      exact O.sel [false, false, false, false, true, true, true, true, true, true, true, true, true, true, true]
  · have cs := O.facts
    simp only [factsP, cellsP, roomP, foots_cons, foots_nil, foots_append, foot_pt, ptb, ptb_mapA, foot_mapA, factsP_mapA, foot_bun, List.append_nil, List.nil_append, List.cons_append, List.nodup_cons, List.nodup_nil, List.mem_cons, List.not_mem_nil, List.mem_singleton, List.forall_mem_cons, not_or, not_false_eq_true, and_true, true_and, or_false, false_or, forall_eq_or_imp, forall_eq, implies_true, Nat.zero_add, Nat.reduceAdd, and_assoc, ptb_listA, factsP_listA, ptb_fam, factsP_fam, ptb_propA, factsP_propA, ptb_learnA, factsP_learnA, ptb_tabA, factsP_tabA, Nat.mul_one, sentCells, ptrCells] at cs
    go_upto_region 21 with fail
    first | apply Mem.atCall | apply Mem.atCode | apply Mem.atList
    case h => repeat' (first | (with_reducible exact O) | (with_reducible apply Mem.drew) | (with_reducible apply Mem.drewN) | (with_reducible apply Mem.ext) | (with_reducible apply Mem.alloc) | (with_reducible apply Mem.setCell) | (simp only [ptb, ptb_upd, foots_cons, List.mem_cons, World.size_alloc, size_ext, World.size_setCell, true_or, or_true, eq_self_iff_true, ptb_listA, ptb_fam, ptb_propA, ptb_learnA, ptb_tabA]))
    case' k =>
      intro w7 O'
      (try clear O)
      have O := O'
      clear O'
      (first | simp only [sel, rst, List.cons_append, List.nil_append, World.size_alloc, size_ext, World.size_setCell, size_setMap, World.size_drew, size_drewN, upd, List.set_cons_zero, List.set_cons_succ, if_true, if_false, reduceIte, not_false_eq_true, ne_lt0, ne_lt1, ne_lt2, ne_lt3, ne_lt4, cs] at O | simp only [sel, rst, List.cons_append, List.nil_append, World.size_alloc, size_ext, World.size_setCell, size_setMap, World.size_drew, size_drewN, upd, List.set_cons_zero, List.set_cons_succ, if_true, if_false, reduceIte, not_false_eq_true, ne_lt0, ne_lt1, ne_lt2, ne_lt3, ne_lt4] at O | skip)
      (try clear cs)
      (try clear v1)
      (try clear v2)
      (try clear v3)
    apply region_held_mem [true, true, true] (by kernel_rfl)
    case O => repeat' (first | (with_reducible exact O) | (with_reducible apply Mem.drew) | (with_reducible apply Mem.drewN) | (with_reducible apply Mem.ext) | (with_reducible apply Mem.alloc) | (with_reducible apply Mem.setCell) | (simp only [ptb, ptb_upd, foots_cons, List.mem_cons, World.size_alloc, size_ext, World.size_setCell, true_or, or_true, eq_self_iff_true, ptb_listA, ptb_fam, ptb_propA, ptb_learnA, ptb_tabA]))
    case' h =>
      intro wr2 O'
      (try clear O)
      have O := O'
      clear O'
      (first | simp only [sel, rst, List.cons_append, List.nil_append, World.size_alloc, size_ext, World.size_setCell, size_setMap, World.size_drew, size_drewN, upd, List.set_cons_zero, List.set_cons_succ, if_true, if_false, reduceIte, not_false_eq_true, ne_lt0, ne_lt1, ne_lt2, ne_lt3, ne_lt4, cs] at O | simp only [sel, rst, List.cons_append, List.nil_append, World.size_alloc, size_ext, World.size_setCell, size_setMap, World.size_drew, size_drewN, upd, List.set_cons_zero, List.set_cons_succ, if_true, if_false, reduceIte, not_false_eq_true, ne_lt0, ne_lt1, ne_lt2, ne_lt3, ne_lt4] at O | skip)
      (try clear cs)
      (try clear v1)
      (try clear v2)
      (try clear v3)
    refine takeH (i := 0) (v := ?v2_1) rfl (by kernel_rfl) (by kernel_rfl) (by kernel_rfl) (fun _ _ _ h => h) (by rfl) ?y2_1 (O.sel [true, true, true]) ?r2_1
    case y2_1 =>
      intro WW hSw
      (go_simp) <;> (with_reducible rfl)
    case' r2_1 =>
      try simp only [Act.put, List.setIfInBounds_toArray, List.set_cons_zero, List.set_cons_succ]
    refine takeH (i := 1) (v := ?v2_2) rfl (by kernel_rfl) (by kernel_rfl) (by kernel_rfl) (fun _ _ _ h => h) (by rfl) ?y2_2 (O.sel [true, true, true]) ?r2_2
    case y2_2 =>
      intro WW hSw
      (go_simp) <;> (with_reducible rfl)
    case' r2_2 =>
      try simp only [Act.put, List.setIfInBounds_toArray, List.set_cons_zero, List.set_cons_succ]
    refine takeH (i := 2) (v := ?v2_3) rfl (by kernel_rfl) (by kernel_rfl) (by kernel_rfl) (fun _ _ _ h => h) (by rfl) ?y2_3 (O.sel [true, true, true]) ?r2_3
    case y2_3 =>
      intro WW hSw
      (go_simp) <;> (with_reducible rfl)
    case' r2_3 =>
      try simp only [Act.put, List.setIfInBounds_toArray, List.set_cons_zero, List.set_cons_succ]
    refine takeH (i := 3) (v := ?v2_4) rfl (by kernel_rfl) (by kernel_rfl) (by kernel_rfl) (fun _ _ _ h => h) (by rfl) ?y2_4 (O.sel [true, true, true]) ?r2_4
    case y2_4 =>
      intro WW hSw
      (go_simp) <;> (with_reducible rfl)
    case' r2_4 =>
      try simp only [Act.put, List.setIfInBounds_toArray, List.set_cons_zero, List.set_cons_succ]
    refine takeH (i := 4) (v := ?v2_5) rfl (by kernel_rfl) (by kernel_rfl) (by kernel_rfl) (fun _ _ _ h => h) (by rfl) ?y2_5 (O.sel [true, true, true]) ?r2_5
    case y2_5 =>
      intro WW hSw
      replace hSw : Mem _ _ WW _ := hSw
      have cs := hSw.facts
      simp only [sel, factsP, cellsP, roomP, foots_cons, foots_nil, foots_append, foot_pt, ptb, ptb_mapA, foot_mapA, factsP_mapA, foot_bun, List.append_nil, List.nil_append, List.cons_append, List.nodup_cons, List.nodup_nil, List.mem_cons, List.not_mem_nil, List.mem_singleton, List.forall_mem_cons, not_or, not_false_eq_true, and_true, true_and, or_false, false_or, forall_eq_or_imp, forall_eq, implies_true, Nat.zero_add, Nat.reduceAdd, and_assoc, ptb_listA, factsP_listA, ptb_fam, factsP_fam, ptb_propA, factsP_propA, ptb_learnA, factsP_learnA, ptb_tabA, factsP_tabA, Nat.mul_one, sentCells, ptrCells] at cs
      (go_simp) <;> (with_reducible rfl)
    case' r2_5 =>
      try simp only [Act.put, List.setIfInBounds_toArray, List.set_cons_zero, List.set_cons_succ]
    refine takeH (i := 6) (v := ?v2_6) rfl (by kernel_rfl) (by kernel_rfl) (by kernel_rfl) (fun _ _ _ h => h) (by rfl) ?y2_6 (O.sel [true, true, true]) ?r2_6
    case y2_6 =>
      intro WW hSw
      (go_simp) <;> (with_reducible rfl)
    case' r2_6 =>
      try simp only [Act.put, List.setIfInBounds_toArray, List.set_cons_zero, List.set_cons_succ]
    refine takeH (i := 7) (v := ?v2_7) rfl (by kernel_rfl) (by kernel_rfl) (by kernel_rfl) (fun _ _ _ h => h) (by rfl) ?y2_7 (O.sel [true, true, true]) ?r2_7
    case y2_7 =>
      intro WW hSw
      replace hSw : Mem _ _ WW _ := hSw
      have cs := hSw.facts
      simp only [sel, factsP, cellsP, roomP, foots_cons, foots_nil, foots_append, foot_pt, ptb, ptb_mapA, foot_mapA, factsP_mapA, foot_bun, List.append_nil, List.nil_append, List.cons_append, List.nodup_cons, List.nodup_nil, List.mem_cons, List.not_mem_nil, List.mem_singleton, List.forall_mem_cons, not_or, not_false_eq_true, and_true, true_and, or_false, false_or, forall_eq_or_imp, forall_eq, implies_true, Nat.zero_add, Nat.reduceAdd, and_assoc, ptb_listA, factsP_listA, ptb_fam, factsP_fam, ptb_propA, factsP_propA, ptb_learnA, factsP_learnA, ptb_tabA, factsP_tabA, Nat.mul_one, sentCells, ptrCells] at cs
      (go_simp) <;> (with_reducible rfl)
    case' r2_7 =>
      try simp only [Act.put, List.setIfInBounds_toArray, List.set_cons_zero, List.set_cons_succ]
    refine takeH (i := 8) (v := ?v2_8) rfl (by kernel_rfl) (by kernel_rfl) (by kernel_rfl) (fun _ _ _ h => h) (by rfl) ?y2_8 (O.sel [true, true, true]) ?r2_8
    case y2_8 =>
      intro WW hSw
      (go_simp) <;> (with_reducible rfl)
    case' r2_8 =>
      try simp only [Act.put, List.setIfInBounds_toArray, List.set_cons_zero, List.set_cons_succ]
    refine takeH (i := 9) (v := ?v2_9) rfl (by kernel_rfl) (by kernel_rfl) (by kernel_rfl) (fun _ _ _ h => h) (by rfl) ?y2_9 (O.sel [true, true, true]) ?r2_9
    case y2_9 =>
      intro WW hSw
      replace hSw : Mem _ _ WW _ := hSw
      have cs := hSw.facts
      simp only [sel, factsP, cellsP, roomP, foots_cons, foots_nil, foots_append, foot_pt, ptb, ptb_mapA, foot_mapA, factsP_mapA, foot_bun, List.append_nil, List.nil_append, List.cons_append, List.nodup_cons, List.nodup_nil, List.mem_cons, List.not_mem_nil, List.mem_singleton, List.forall_mem_cons, not_or, not_false_eq_true, and_true, true_and, or_false, false_or, forall_eq_or_imp, forall_eq, implies_true, Nat.zero_add, Nat.reduceAdd, and_assoc, ptb_listA, factsP_listA, ptb_fam, factsP_fam, ptb_propA, factsP_propA, ptb_learnA, factsP_learnA, ptb_tabA, factsP_tabA, Nat.mul_one, sentCells, ptrCells] at cs
      (go_simp) <;> (with_reducible rfl)
    case' r2_9 =>
      try simp only [Act.put, List.setIfInBounds_toArray, List.set_cons_zero, List.set_cons_succ]
    refine takeH (i := 10) (v := ?v2_10) rfl (by kernel_rfl) (by kernel_rfl) (by kernel_rfl) (fun _ _ _ h => h) (by rfl) ?y2_10 (O.sel [true, true, true]) ?r2_10
    case y2_10 =>
      intro WW hSw
      replace hSw : Mem _ _ WW _ := hSw
      have cs := hSw.facts
      simp only [sel, factsP, cellsP, roomP, foots_cons, foots_nil, foots_append, foot_pt, ptb, ptb_mapA, foot_mapA, factsP_mapA, foot_bun, List.append_nil, List.nil_append, List.cons_append, List.nodup_cons, List.nodup_nil, List.mem_cons, List.not_mem_nil, List.mem_singleton, List.forall_mem_cons, not_or, not_false_eq_true, and_true, true_and, or_false, false_or, forall_eq_or_imp, forall_eq, implies_true, Nat.zero_add, Nat.reduceAdd, and_assoc, ptb_listA, factsP_listA, ptb_fam, factsP_fam, ptb_propA, factsP_propA, ptb_learnA, factsP_learnA, ptb_tabA, factsP_tabA, Nat.mul_one, sentCells, ptrCells] at cs
      (go_simp) <;> (with_reducible rfl)
    case' r2_10 =>
      try simp only [Act.put, List.setIfInBounds_toArray, List.set_cons_zero, List.set_cons_succ]
    refine takeH (i := 11) (v := ?v2_11) rfl (by kernel_rfl) (by kernel_rfl) (by kernel_rfl) (fun _ _ _ h => h) (by rfl) ?y2_11 (O.sel [true, true, true]) ?r2_11
    case y2_11 =>
      intro WW hSw
      replace hSw : Mem _ _ WW _ := hSw
      have cs := hSw.facts
      simp only [sel, factsP, cellsP, roomP, foots_cons, foots_nil, foots_append, foot_pt, ptb, ptb_mapA, foot_mapA, factsP_mapA, foot_bun, List.append_nil, List.nil_append, List.cons_append, List.nodup_cons, List.nodup_nil, List.mem_cons, List.not_mem_nil, List.mem_singleton, List.forall_mem_cons, not_or, not_false_eq_true, and_true, true_and, or_false, false_or, forall_eq_or_imp, forall_eq, implies_true, Nat.zero_add, Nat.reduceAdd, and_assoc, ptb_listA, factsP_listA, ptb_fam, factsP_fam, ptb_propA, factsP_propA, ptb_learnA, factsP_learnA, ptb_tabA, factsP_tabA, Nat.mul_one, sentCells, ptrCells] at cs
      (go_simp) <;> (with_reducible rfl)
    case' r2_11 =>
      try simp only [Act.put, List.setIfInBounds_toArray, List.set_cons_zero, List.set_cons_succ]
    refine takeH (i := 12) (v := ?v2_12) rfl (by kernel_rfl) (by kernel_rfl) (by kernel_rfl) (fun _ _ _ h => h) (by rfl) ?y2_12 (O.sel [true, true, true]) ?r2_12
    case y2_12 =>
      intro WW hSw
      (go_simp) <;> (with_reducible rfl)
    case' r2_12 =>
      try simp only [Act.put, List.setIfInBounds_toArray, List.set_cons_zero, List.set_cons_succ]
    refine takeH (i := 15) (v := ?v2_13) rfl (by kernel_rfl) (by kernel_rfl) (by kernel_rfl) (fun _ _ _ h => h) (by rfl) ?y2_13 (O.sel [true, true, true]) ?r2_13
    case y2_13 =>
      intro WW hSw
      (go_simp) <;> (with_reducible rfl)
    case' r2_13 =>
      try simp only [Act.put, List.setIfInBounds_toArray, List.set_cons_zero, List.set_cons_succ]
    refine takeH (i := 16) (v := ?v2_14) rfl (by kernel_rfl) (by kernel_rfl) (by kernel_rfl) (fun _ _ _ h => h) (by rfl) ?y2_14 (O.sel [true, true, true]) ?r2_14
    case y2_14 =>
      intro WW hSw
      (go_simp) <;> (with_reducible rfl)
    case' r2_14 =>
      try simp only [Act.put, List.setIfInBounds_toArray, List.set_cons_zero, List.set_cons_succ]
    apply cutT1
    case main =>
      intro hT2_0
      refine wpAnyH_ready (rs := [5, 13]) (by kernel_rfl) (by simp) ?_
      refine consH rfl (fun K hK => ?_) ?_
      · have cs := O.facts
        simp only [factsP, cellsP, roomP, foots_cons, foots_nil, foots_append, foot_pt, ptb, ptb_mapA, foot_mapA, factsP_mapA, foot_bun, List.append_nil, List.nil_append, List.cons_append, List.nodup_cons, List.nodup_nil, List.mem_cons, List.not_mem_nil, List.mem_singleton, List.forall_mem_cons, not_or, not_false_eq_true, and_true, true_and, or_false, false_or, forall_eq_or_imp, forall_eq, implies_true, Nat.zero_add, Nat.reduceAdd, and_assoc, ptb_listA, factsP_listA, ptb_fam, factsP_fam, ptb_propA, factsP_propA, ptb_learnA, factsP_learnA, ptb_tabA, factsP_tabA, Nat.mul_one, sentCells, ptrCells] at cs
        go_simp
        apply Mem.atK
        case h => repeat' (first | (with_reducible exact O) | (with_reducible apply Mem.drew) | (with_reducible apply Mem.drewN) | (with_reducible apply Mem.ext) | (with_reducible apply Mem.alloc) | (with_reducible apply Mem.setCell) | (simp only [ptb, ptb_upd, foots_cons, List.mem_cons, World.size_alloc, size_ext, World.size_setCell, true_or, or_true, eq_self_iff_true, ptb_listA, ptb_fam, ptb_propA, ptb_learnA, ptb_tabA]))
        intro w2_15 O'
        (try clear O)
        have O := O'
        clear O'
        (first | simp only [sel, rst, List.cons_append, List.nil_append, World.size_alloc, size_ext, World.size_setCell, size_setMap, World.size_drew, size_drewN, upd, List.set_cons_zero, List.set_cons_succ, if_true, if_false, reduceIte, not_false_eq_true, ne_lt0, ne_lt1, ne_lt2, ne_lt3, ne_lt4, cs] at O | simp only [sel, rst, List.cons_append, List.nil_append, World.size_alloc, size_ext, World.size_setCell, size_setMap, World.size_drew, size_drewN, upd, List.set_cons_zero, List.set_cons_succ, if_true, if_false, reduceIte, not_false_eq_true, ne_lt0, ne_lt1, ne_lt2, ne_lt3, ne_lt4] at O | skip)
        (try clear cs)
        (try clear v1)
        (try clear v2)
        (try clear v3)
        refine hK.out _ _ (O.sel [true, true, true]) (fun _ => ?_)
        clear hK K
        refine wpAnyH_ready (rs := [13]) (by kernel_rfl) (by simp) ?_
        refine consH rfl (fun K hK => ?_) AllReadyH.nil
        have cs := O.facts
        simp only [factsP, cellsP, roomP, foots_cons, foots_nil, foots_append, foot_pt, ptb, ptb_mapA, foot_mapA, factsP_mapA, foot_bun, List.append_nil, List.nil_append, List.cons_append, List.nodup_cons, List.nodup_nil, List.mem_cons, List.not_mem_nil, List.mem_singleton, List.forall_mem_cons, not_or, not_false_eq_true, and_true, true_and, or_false, false_or, forall_eq_or_imp, forall_eq, implies_true, Nat.zero_add, Nat.reduceAdd, and_assoc, ptb_listA, factsP_listA, ptb_fam, factsP_fam, ptb_propA, factsP_propA, ptb_learnA, factsP_learnA, ptb_tabA, factsP_tabA, Nat.mul_one, sentCells, ptrCells] at cs
        go_simp
        apply Mem.atK
        case h => repeat' (first | (with_reducible exact O) | (with_reducible apply Mem.drew) | (with_reducible apply Mem.drewN) | (with_reducible apply Mem.ext) | (with_reducible apply Mem.alloc) | (with_reducible apply Mem.setCell) | (simp only [ptb, ptb_upd, foots_cons, List.mem_cons, World.size_alloc, size_ext, World.size_setCell, true_or, or_true, eq_self_iff_true, ptb_listA, ptb_fam, ptb_propA, ptb_learnA, ptb_tabA]))
        intro w2_16 O'
        (try clear O)
        have O := O'
        clear O'
        (first | simp only [sel, rst, List.cons_append, List.nil_append, World.size_alloc, size_ext, World.size_setCell, size_setMap, World.size_drew, size_drewN, upd, List.set_cons_zero, List.set_cons_succ, if_true, if_false, reduceIte, not_false_eq_true, ne_lt0, ne_lt1, ne_lt2, ne_lt3, ne_lt4, cs] at O | simp only [sel, rst, List.cons_append, List.nil_append, World.size_alloc, size_ext, World.size_setCell, size_setMap, World.size_drew, size_drewN, upd, List.set_cons_zero, List.set_cons_succ, if_true, if_false, reduceIte, not_false_eq_true, ne_lt0, ne_lt1, ne_lt2, ne_lt3, ne_lt4] at O | skip)
        (try clear cs)
        (try clear v1)
        (try clear v2)
        (try clear v3)
        generalize w2_15.heap.size = p2_17 at O ⊢
        refine hK.out _ _ (O.sel [false, true, true, true]) (fun _ => ?_)
        clear hK K
        revert O
        exact hT2_0.out p2_17 w2_16
      refine consH rfl (fun K hK => ?_) ?_
      · have cs := O.facts
        simp only [factsP, cellsP, roomP, foots_cons, foots_nil, foots_append, foot_pt, ptb, ptb_mapA, foot_mapA, factsP_mapA, foot_bun, List.append_nil, List.nil_append, List.cons_append, List.nodup_cons, List.nodup_nil, List.mem_cons, List.not_mem_nil, List.mem_singleton, List.forall_mem_cons, not_or, not_false_eq_true, and_true, true_and, or_false, false_or, forall_eq_or_imp, forall_eq, implies_true, Nat.zero_add, Nat.reduceAdd, and_assoc, ptb_listA, factsP_listA, ptb_fam, factsP_fam, ptb_propA, factsP_propA, ptb_learnA, factsP_learnA, ptb_tabA, factsP_tabA, Nat.mul_one, sentCells, ptrCells] at cs
        go_simp
        apply Mem.atK
        case h => repeat' (first | (with_reducible exact O) | (with_reducible apply Mem.drew) | (with_reducible apply Mem.drewN) | (with_reducible apply Mem.ext) | (with_reducible apply Mem.alloc) | (with_reducible apply Mem.setCell) | (simp only [ptb, ptb_upd, foots_cons, List.mem_cons, World.size_alloc, size_ext, World.size_setCell, true_or, or_true, eq_self_iff_true, ptb_listA, ptb_fam, ptb_propA, ptb_learnA, ptb_tabA]))
        intro w2_18 O'
        (try clear O)
        have O := O'
        clear O'
        (first | simp only [sel, rst, List.cons_append, List.nil_append, World.size_alloc, size_ext, World.size_setCell, size_setMap, World.size_drew, size_drewN, upd, List.set_cons_zero, List.set_cons_succ, if_true, if_false, reduceIte, not_false_eq_true, ne_lt0, ne_lt1, ne_lt2, ne_lt3, ne_lt4, cs] at O | simp only [sel, rst, List.cons_append, List.nil_append, World.size_alloc, size_ext, World.size_setCell, size_setMap, World.size_drew, size_drewN, upd, List.set_cons_zero, List.set_cons_succ, if_true, if_false, reduceIte, not_false_eq_true, ne_lt0, ne_lt1, ne_lt2, ne_lt3, ne_lt4] at O | skip)
        (try clear cs)
        (try clear v1)
        (try clear v2)
        (try clear v3)
        generalize wr2.heap.size = p2_19 at O ⊢
        refine hK.out _ _ (O.sel [false, true, true, true]) (fun _ => ?_)
        clear hK K
        refine wpAnyH_ready (rs := [5]) (by kernel_rfl) (by simp) ?_
        refine consH rfl (fun K hK => ?_) AllReadyH.nil
        have cs := O.facts
        simp only [factsP, cellsP, roomP, foots_cons, foots_nil, foots_append, foot_pt, ptb, ptb_mapA, foot_mapA, factsP_mapA, foot_bun, List.append_nil, List.nil_append, List.cons_append, List.nodup_cons, List.nodup_nil, List.mem_cons, List.not_mem_nil, List.mem_singleton, List.forall_mem_cons, not_or, not_false_eq_true, and_true, true_and, or_false, false_or, forall_eq_or_imp, forall_eq, implies_true, Nat.zero_add, Nat.reduceAdd, and_assoc, ptb_listA, factsP_listA, ptb_fam, factsP_fam, ptb_propA, factsP_propA, ptb_learnA, factsP_learnA, ptb_tabA, factsP_tabA, Nat.mul_one, sentCells, ptrCells] at cs
        go_simp
        apply Mem.atK
        case h => repeat' (first | (with_reducible exact O) | (with_reducible apply Mem.drew) | (with_reducible apply Mem.drewN) | (with_reducible apply Mem.ext) | (with_reducible apply Mem.alloc) | (with_reducible apply Mem.setCell) | (simp only [ptb, ptb_upd, foots_cons, List.mem_cons, World.size_alloc, size_ext, World.size_setCell, true_or, or_true, eq_self_iff_true, ptb_listA, ptb_fam, ptb_propA, ptb_learnA, ptb_tabA]))
        intro w2_20 O'
        (try clear O)
        have O := O'
        clear O'
        (first | simp only [sel, rst, List.cons_append, List.nil_append, World.size_alloc, size_ext, World.size_setCell, size_setMap, World.size_drew, size_drewN, upd, List.set_cons_zero, List.set_cons_succ, if_true, if_false, reduceIte, not_false_eq_true, ne_lt0, ne_lt1, ne_lt2, ne_lt3, ne_lt4, cs] at O | simp only [sel, rst, List.cons_append, List.nil_append, World.size_alloc, size_ext, World.size_setCell, size_setMap, World.size_drew, size_drewN, upd, List.set_cons_zero, List.set_cons_succ, if_true, if_false, reduceIte, not_false_eq_true, ne_lt0, ne_lt1, ne_lt2, ne_lt3, ne_lt4] at O | skip)
        (try clear cs)
        (try clear v1)
        (try clear v2)
        (try clear v3)
        refine hK.out _ _ (O.sel [false, true, true, true]) (fun _ => ?_)
        clear hK K
        revert O
        exact hT2_0.out p2_19 w2_20
      exact AllReadyH.nil
    case' tail =>
      intro q2_21 w2_22 O
    refine wpAnyH_ready (rs := [14]) (by kernel_rfl) (by simp) ?_
    refine consH rfl (fun K hK => ?_) AllReadyH.nil
    have cs := O.facts
    simp only [factsP, cellsP, roomP, foots_cons, foots_nil, foots_append, foot_pt, ptb, ptb_mapA, foot_mapA, factsP_mapA, foot_bun, List.append_nil, List.nil_append, List.cons_append, List.nodup_cons, List.nodup_nil, List.mem_cons, List.not_mem_nil, List.mem_singleton, List.forall_mem_cons, not_or, not_false_eq_true, and_true, true_and, or_false, false_or, forall_eq_or_imp, forall_eq, implies_true, Nat.zero_add, Nat.reduceAdd, and_assoc, ptb_listA, factsP_listA, ptb_fam, factsP_fam, ptb_propA, factsP_propA, ptb_learnA, factsP_learnA, ptb_tabA, factsP_tabA, Nat.mul_one, sentCells, ptrCells] at cs
    (try clear cs)
    (try clear v1)
    (try clear v2)
    (try clear v3)
    refine sentTy.if_app (O.front1 [false, false, false, false, false, false, false, false, false, false, false, false, false, false, true] rfl) rfl rfl rfl rfl [⟨k, mto, ⟨pr, pn⟩, .empty, ⟨ai, ⟨ar, an⟩, av⟩⟩] rfl rfl (src_one (x := (⟨k, mto, ⟨pr, pn⟩, .empty, ⟨ai, ⟨ar, an⟩, av⟩⟩ : Sent)) (fun _ => rfl) O (List.mem_cons_self ..)) (by simp; omega) ?_
    intro B4' d4' w2_23 O'
    (try clear O)
    have O := O'.unfront
    clear O'
    simp only [put, List.cons_append, List.nil_append] at O
    refine hK.out _ _ (O.sel [false, true, true, true]) (fun _ => ?_)
    clear hK K
    refine takeH (i := 17) (v := ?v2_24) rfl (by kernel_rfl) (by kernel_rfl) (by kernel_rfl) (fun _ _ _ h => h) (by rfl) ?y2_24 (O.sel [false, true, true, true]) ?r2_24
    case y2_24 =>
      intro WW hSw
      replace hSw : Mem _ _ WW _ := hSw
      have cs := hSw.facts
      simp only [sel, factsP, cellsP, roomP, foots_cons, foots_nil, foots_append, foot_pt, ptb, ptb_mapA, foot_mapA, factsP_mapA, foot_bun, List.append_nil, List.nil_append, List.cons_append, List.nodup_cons, List.nodup_nil, List.mem_cons, List.not_mem_nil, List.mem_singleton, List.forall_mem_cons, not_or, not_false_eq_true, and_true, true_and, or_false, false_or, forall_eq_or_imp, forall_eq, implies_true, Nat.zero_add, Nat.reduceAdd, and_assoc, ptb_listA, factsP_listA, ptb_fam, factsP_fam, ptb_propA, factsP_propA, ptb_learnA, factsP_learnA, ptb_tabA, factsP_tabA, Nat.mul_one, sentCells, ptrCells] at cs
      (go_simp) <;> (with_reducible rfl)
    case' r2_24 =>
      try simp only [Act.put, List.setIfInBounds_toArray, List.set_cons_zero, List.set_cons_succ]
    refine wpAnyH_ready (rs := [18]) (by kernel_rfl) (by simp) ?_
    refine consH rfl (fun K hK => ?_) AllReadyH.nil
    have cs := O.facts
    simp only [factsP, cellsP, roomP, foots_cons, foots_nil, foots_append, foot_pt, ptb, ptb_mapA, foot_mapA, factsP_mapA, foot_bun, List.append_nil, List.nil_append, List.cons_append, List.nodup_cons, List.nodup_nil, List.mem_cons, List.not_mem_nil, List.mem_singleton, List.forall_mem_cons, not_or, not_false_eq_true, and_true, true_and, or_false, false_or, forall_eq_or_imp, forall_eq, implies_true, Nat.zero_add, Nat.reduceAdd, and_assoc, ptb_listA, factsP_listA, ptb_fam, factsP_fam, ptb_propA, factsP_propA, ptb_learnA, factsP_learnA, ptb_tabA, factsP_tabA, Nat.mul_one, sentCells, ptrCells] at cs
    go_simp
    apply Mem.atK
    case h => repeat' (first | (with_reducible exact O) | (with_reducible apply Mem.drew) | (with_reducible apply Mem.drewN) | (with_reducible apply Mem.ext) | (with_reducible apply Mem.alloc) | (with_reducible apply Mem.setCell) | (simp only [ptb, ptb_upd, foots_cons, List.mem_cons, World.size_alloc, size_ext, World.size_setCell, true_or, or_true, eq_self_iff_true, ptb_listA, ptb_fam, ptb_propA, ptb_learnA, ptb_tabA]))
    intro w2_25 O'
    (try clear O)
    have O := O'
    clear O'
    (first | simp only [sel, rst, List.cons_append, List.nil_append, World.size_alloc, size_ext, World.size_setCell, size_setMap, World.size_drew, size_drewN, upd, List.set_cons_zero, List.set_cons_succ, if_true, if_false, reduceIte, not_false_eq_true, ne_lt0, ne_lt1, ne_lt2, ne_lt3, ne_lt4, cs] at O | simp only [sel, rst, List.cons_append, List.nil_append, World.size_alloc, size_ext, World.size_setCell, size_setMap, World.size_drew, size_drewN, upd, List.set_cons_zero, List.set_cons_succ, if_true, if_false, reduceIte, not_false_eq_true, ne_lt0, ne_lt1, ne_lt2, ne_lt3, ne_lt4] at O | skip)
    (try clear cs)
    (try clear v1)
    (try clear v2)
    (try clear v3)
    refine hK.out _ _ (O.sel [false, true, true, true]) (fun _ => ?_)
    clear hK K
    refine wpAnyH_done (by kernel_rfl) ?_ _
    have cs := O.facts
    simp only [factsP, cellsP, roomP, foots_cons, foots_nil, foots_append, foot_pt, ptb, ptb_mapA, foot_mapA, factsP_mapA, foot_bun, List.append_nil, List.nil_append, List.cons_append, List.nodup_cons, List.nodup_nil, List.mem_cons, List.not_mem_nil, List.mem_singleton, List.forall_mem_cons, not_or, not_false_eq_true, and_true, true_and, or_false, false_or, forall_eq_or_imp, forall_eq, implies_true, Nat.zero_add, Nat.reduceAdd, and_assoc, ptb_listA, factsP_listA, ptb_fam, factsP_fam, ptb_propA, factsP_propA, ptb_learnA, factsP_learnA, ptb_tabA, factsP_tabA, Nat.mul_one, sentCells, ptrCells] at cs
    go_wp2_with fail
    refine bodyPost_end (results_none rfl _ _ _) rfl ⟨rfl, ?_⟩
    refine ⟨⟨(some ⟨gt, 0, none⟩), c1, A2, c2, A3, c3, (tabs.set mto (tb, mb, row')), props, learns, round, vote, (some ⟨g, 0, none⟩), d2, l2, B3, d3, l3, B4', d4', (l4 ++ [⟨k, mto, ⟨pr, pn⟩, .empty, ⟨ai, ⟨ar, an⟩, av⟩⟩]), B5, d5, l5⟩, ?_, ?_, by simp [PxM.size]; omega, HMO.out, map_set_fst HT.out rfl, rfl⟩
    · have hmv := HMV.out
      simp only [if_true] at hmv
      unfold PxM.st
      simp only [HE.out]
      exact hmv
    · rw [← HF.out]
      simp only [PxM.parts, PxM.cells, map_set_fst (f := fun x : Nat × Nat × Rows10 => x.1) (a' := (tb, mb, row')) HT.out rfl, List.length_append, List.length_cons, List.length_nil, Nat.zero_add]
      exact O.sel [false, false, false, false, false, true, true, true, true, true, true, true, true, true, true, true]
end Go.Proofs.Ytkhpikjmhamppaa
