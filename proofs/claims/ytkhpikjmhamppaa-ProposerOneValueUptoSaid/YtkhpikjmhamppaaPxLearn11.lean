/- WALK: a step of the world of Paxos: an acceptance comes to a learner. -/
import Derived.Test.YtkhpikjmhamppaaPx11
set_option linter.unusedVariables false
set_option linter.unusedSimpArgs false
namespace Go.Proofs.Ytkhpikjmhamppaa
open Go.RowKit Go.Tk
set_option maxRecDepth 100000 in
set_option maxHeartbeats 16000000 in
theorem px_learn (w : World) (xb n : Nat) (X : PxM) (P : List ByteArray) (ea eb : Int) (ev : ByteArray) (hn : 1 ≤ n ∧ n ≤ 5) (h : Pre w (X.parts n xb)) (ha : inI64 ea) (hb : inI64 eb) (hsz : X.size ≤ 1000000) (hro : X.round ≤ 1000000) (hI : Inv n P X.st) (hmo : ∀ q ∈ X.props, q.2.1 = none → q.2.2.b.r = 0) :
    Calls Try.prog 23 #[.pointer (some ⟨xb, 0, none⟩), (⟨5, ea, eb, ev⟩ : Ev).val] w (fun e w' => e = .returned (.tuple #[]) ∧ StepPost n xb w X none w') := by
  obtain ⟨fp, hfp⟩ : ∃ F, F = foots (X.parts n xb) := ⟨_, rfl⟩
  have O : Mem w fp w (X.parts n xb) := by rw [hfp]; exact h
  have HF := Lib.hid hfp
  have HMO := Lib.hid hmo
  have HI := Lib.hid hI
  clear hfp h hmo hI
  obtain ⟨A1, c1, A2, c2, A3, c3, tabs, props, learns, round, vote, B2, d2, l2, B3, d3, l3, B4, d4, l4, B5, d5, l5⟩ := X
  have hs2 : l2.length ≤ 1000000 := by simp only [PxM.size] at hsz; omega
  have hs3 : l3.length ≤ 1000000 := by simp only [PxM.size] at hsz; omega
  have hs4 : l4.length ≤ 1000000 := by simp only [PxM.size] at hsz; omega
  have hs5 : l5.length ≤ 1000000 := by simp only [PxM.size] at hsz; omega
  have HS := Lib.hid hsz
  clear hsz
  simp only at hro
  have P6 := Lib.hid (fun W => q_pick 5 6 ⟨by omega, by omega⟩ (by omega) (by omega) W)
  have e6 : (pickN 5 6 : Int) = 5 := by decide
  rw [e6] at P6
  clear e6
  by_cases hnil : l5 = []
  · subst hnil
    simp only [PxM.parts, PxM.cells, List.length_nil] at O
    simp only [Ev.val]
    skip
    go_enter Try.func23, Try.ntmps23
    have cs := O.facts
    simp only [factsP, cellsP, roomP, foots_cons, foots_nil, foots_append, foot_pt, ptb, ptb_mapA, foot_mapA, factsP_mapA, foot_bun, List.append_nil, List.nil_append, List.cons_append, List.nodup_cons, List.nodup_nil, List.mem_cons, List.not_mem_nil, List.mem_singleton, List.forall_mem_cons, not_or, not_false_eq_true, and_true, true_and, or_false, false_or, forall_eq_or_imp, forall_eq, implies_true, Nat.zero_add, Nat.reduceAdd, and_assoc, ptb_listA, factsP_listA, ptb_fam, factsP_fam, ptb_propA, factsP_propA, ptb_learnA, factsP_learnA, ptb_tabA, factsP_tabA, Nat.mul_one, sentCells, ptrCells] at cs
    go_upto_region 2 with fail
    first | apply Mem.atCall | apply Mem.atCode | apply Mem.atList
    case h => repeat' (first | (with_reducible exact O) | (with_reducible apply Mem.drew) | (with_reducible apply Mem.drewN) | (with_reducible apply Mem.ext) | (with_reducible apply Mem.alloc) | (with_reducible apply Mem.setCell) | (simp only [ptb, ptb_upd, foots_cons, List.mem_cons, World.size_alloc, size_ext, World.size_setCell, true_or, or_true, eq_self_iff_true, ptb_listA, ptb_fam, ptb_propA, ptb_learnA, ptb_tabA]))
    case' k =>
      intro w1 O'
      (try clear O)
      have O := O'
      clear O'
      (first | simp only [sel, rst, List.cons_append, List.nil_append, World.size_alloc, size_ext, World.size_setCell, size_setMap, World.size_drew, size_drewN, upd, List.set_cons_zero, List.set_cons_succ, if_true, if_false, reduceIte, not_false_eq_true, ne_lt0, ne_lt1, ne_lt2, ne_lt3, ne_lt4, cs] at O | simp only [sel, rst, List.cons_append, List.nil_append, World.size_alloc, size_ext, World.size_setCell, size_setMap, World.size_drew, size_drewN, upd, List.set_cons_zero, List.set_cons_succ, if_true, if_false, reduceIte, not_false_eq_true, ne_lt0, ne_lt1, ne_lt2, ne_lt3, ne_lt4] at O | skip)
      (try clear cs)
      (try clear v1)
      (try clear v2)
      (try clear v3)
    generalize w.heap.size = vb at O ⊢
    apply region_quiet_mem (by kernel_rfl) (by kernel_rfl)
    case O => repeat' (first | (with_reducible exact O) | (with_reducible apply Mem.drew) | (with_reducible apply Mem.drewN) | (with_reducible apply Mem.ext) | (with_reducible apply Mem.alloc) | (with_reducible apply Mem.setCell) | (simp only [ptb, ptb_upd, foots_cons, List.mem_cons, World.size_alloc, size_ext, World.size_setCell, true_or, or_true, eq_self_iff_true, ptb_listA, ptb_fam, ptb_propA, ptb_learnA, ptb_tabA]))
    case' h =>
      intro w2 O'
      (try clear O)
      have O := O'
      clear O'
      (first | simp only [sel, rst, List.cons_append, List.nil_append, World.size_alloc, size_ext, World.size_setCell, size_setMap, World.size_drew, size_drewN, upd, List.set_cons_zero, List.set_cons_succ, if_true, if_false, reduceIte, not_false_eq_true, ne_lt0, ne_lt1, ne_lt2, ne_lt3, ne_lt4, cs] at O | simp only [sel, rst, List.cons_append, List.nil_append, World.size_alloc, size_ext, World.size_setCell, size_setMap, World.size_drew, size_drewN, upd, List.set_cons_zero, List.set_cons_succ, if_true, if_false, reduceIte, not_false_eq_true, ne_lt0, ne_lt1, ne_lt2, ne_lt3, ne_lt4] at O | skip)
      (try clear cs)
      (try clear v1)
      (try clear v2)
      (try clear v3)
    have cs := O.facts
    simp only [factsP, cellsP, roomP, foots_cons, foots_nil, foots_append, foot_pt, ptb, ptb_mapA, foot_mapA, factsP_mapA, foot_bun, List.append_nil, List.nil_append, List.cons_append, List.nodup_cons, List.nodup_nil, List.mem_cons, List.not_mem_nil, List.mem_singleton, List.forall_mem_cons, not_or, not_false_eq_true, and_true, true_and, or_false, false_or, forall_eq_or_imp, forall_eq, implies_true, Nat.zero_add, Nat.reduceAdd, and_assoc, ptb_listA, factsP_listA, ptb_fam, factsP_fam, ptb_propA, factsP_propA, ptb_learnA, factsP_learnA, ptb_tabA, factsP_tabA, Nat.mul_one, sentCells, ptrCells] at cs
    repeat (go_big_quiet_step ((first | (go_at_call 8; with_reducible exact quietMem (P6.out _)))))
    refine wpQuiet_nil ?_
    intro w3 hq
    (try clear cs)
    (try clear v1)
    (try clear v2)
    (try clear v3)
    replace O := O.qext hq
    clear hq
    have cs := O.facts
    simp only [factsP, cellsP, roomP, foots_cons, foots_nil, foots_append, foot_pt, ptb, ptb_mapA, foot_mapA, factsP_mapA, foot_bun, List.append_nil, List.nil_append, List.cons_append, List.nodup_cons, List.nodup_nil, List.mem_cons, List.not_mem_nil, List.mem_singleton, List.forall_mem_cons, not_or, not_false_eq_true, and_true, true_and, or_false, false_or, forall_eq_or_imp, forall_eq, implies_true, Nat.zero_add, Nat.reduceAdd, and_assoc, ptb_listA, factsP_listA, ptb_fam, factsP_fam, ptb_propA, factsP_propA, ptb_learnA, factsP_learnA, ptb_tabA, factsP_tabA, Nat.mul_one, sentCells, ptrCells] at cs
    go_wp2_with fail
    refine bodyPost_ret (results_none rfl _ _ _) rfl ⟨rfl, ?_⟩
    refine ⟨⟨A1, c1, A2, c2, A3, c3, tabs, props, learns, round, vote, B2, d2, l2, B3, d3, l3, B4, d4, l4, B5, d5, []⟩, Move.idle, ?_, by simp only [PxM.size]; omega, HMO.out, rfl, rfl⟩
    rw [← HF.out]
    simp only [PxM.parts, PxM.cells, List.length_nil]
    exact O.sel [false, true, true, true, true, true, true, true, true, true, true, true]
  have hpos : 1 ≤ l5.length := by
    cases l5 with
    | nil => exact absurd rfl hnil
    | cons x y => simp
  have hpos2 : ((l5.length : Int) == 0) = false := by simp; exact hnil
  have PB := Lib.hid (fun W => q_pick eb l5.length hb hpos (by omega) W)
  have hj : pickN eb l5.length < l5.length := pickN_lt hpos
  clear hpos hnil
  generalize pickN eb l5.length = j at PB hj
  obtain ⟨m, hm⟩ : ∃ m, l5[j]? = some m := ⟨_, List.getElem?_eq_getElem hj⟩
  have HM := Lib.hid hm
  have HMM := Lib.hid (List.mem_of_getElem? hm)
  clear hm
  clear ha hb
  have h2 := HI.out.m5 m HMM.out
  obtain ⟨mto, mfrom, ⟨mbr, mbn⟩, mv, ⟨mai, ⟨mar, man⟩, mav⟩⟩ := m
  have hto := h2.1
  clear h2
  simp only at hto
  have hto3 : (mto : Int) < 3 := by omega
  have hnp : learns.length = 3 := by have := HI.out.nl; simpa [PxM.st] using this
  obtain ⟨⟨lb, mb, l⟩, ht⟩ : ∃ t, learns[mto]? = some t := ⟨_, List.getElem?_eq_getElem (by omega)⟩
  have htb : (learns.map (·.1))[mto]? = some lb := by rw [List.getElem?_map, ht]; rfl
  have hts : (PxM.st ⟨A1, c1, A2, c2, A3, c3, tabs, props, learns, round, vote, B2, d2, l2, B3, d3, l3, B4, d4, l4, B5, d5, l5⟩).learns[mto]? = some l := by
    show (learns.map (·.2.2))[mto]? = some l
    rw [List.getElem?_map, ht]; rfl
  have hL := HI.out.learns mto l hts
  have hln : l.n ≤ 9 := by have := hL.n_; omega
  have hls : l.said.length ≤ 9 := by
    have hk := nat_keys hL.nd (n := n) (fun f hf => by
      obtain ⟨q, hq, rfl⟩ := List.mem_map.1 hf
      obtain ⟨a, h4, h5, _⟩ := hL.said q hq
      exact ⟨a, h4, h5⟩)
    have := nodup_le _ (List.range n) hk.1 (fun x hx => by rw [List.mem_range]; exact (hk.2 x hx).1)
    simp [keysOf] at this
    omega
  have HT := Lib.hid ht
  have HTS := Lib.hid hts
  have HTB := Lib.hid htb
  have PR := Lib.hid (fun W h => lA_Accepted W lb mb l mfrom ⟨mbr, mbn⟩ mv h hln hls)
  have MV := Lib.hid (Move.learn (n := n) (s := PxM.st ⟨A1, c1, A2, c2, A3, c3, tabs, props, learns, round, vote, B2, d2, l2, B3, d3, l3, B4, d4, l4, B5, d5, l5⟩) _ l HMM.out HTS.out)
  clear ht hts htb hnp hL hln hls
  unfold learnS at MV
  generalize accepted11 l mfrom ⟨mbr, mbn⟩ mv = pp at PR MV
  obtain ⟨pv, pm, l'⟩ := pp
  simp only [Ballot.val] at PR MV
  simp only [PxM.parts, PxM.cells] at O
  simp only [Ev.val]
  skip
  go_enter Try.func23, Try.ntmps23
  have cs := O.facts
  simp only [factsP, cellsP, roomP, foots_cons, foots_nil, foots_append, foot_pt, ptb, ptb_mapA, foot_mapA, factsP_mapA, foot_bun, List.append_nil, List.nil_append, List.cons_append, List.nodup_cons, List.nodup_nil, List.mem_cons, List.not_mem_nil, List.mem_singleton, List.forall_mem_cons, not_or, not_false_eq_true, and_true, true_and, or_false, false_or, forall_eq_or_imp, forall_eq, implies_true, Nat.zero_add, Nat.reduceAdd, and_assoc, ptb_listA, factsP_listA, ptb_fam, factsP_fam, ptb_propA, factsP_propA, ptb_learnA, factsP_learnA, ptb_tabA, factsP_tabA, Nat.mul_one, sentCells, ptrCells] at cs
  go_upto_region 2 with fail
  first | apply Mem.atCall | apply Mem.atCode | apply Mem.atList
  case h => repeat' (first | (with_reducible exact O) | (with_reducible apply Mem.drew) | (with_reducible apply Mem.drewN) | (with_reducible apply Mem.ext) | (with_reducible apply Mem.alloc) | (with_reducible apply Mem.setCell) | (simp only [ptb, ptb_upd, foots_cons, List.mem_cons, World.size_alloc, size_ext, World.size_setCell, true_or, or_true, eq_self_iff_true, ptb_listA, ptb_fam, ptb_propA, ptb_learnA, ptb_tabA]))
  case' k =>
    intro w1 O'
    (try clear O)
    have O := O'
    clear O'
    (first | simp only [sel, rst, List.cons_append, List.nil_append, World.size_alloc, size_ext, World.size_setCell, size_setMap, World.size_drew, size_drewN, upd, List.set_cons_zero, List.set_cons_succ, if_true, if_false, reduceIte, not_false_eq_true, ne_lt0, ne_lt1, ne_lt2, ne_lt3, ne_lt4, cs] at O | simp only [sel, rst, List.cons_append, List.nil_append, World.size_alloc, size_ext, World.size_setCell, size_setMap, World.size_drew, size_drewN, upd, List.set_cons_zero, List.set_cons_succ, if_true, if_false, reduceIte, not_false_eq_true, ne_lt0, ne_lt1, ne_lt2, ne_lt3, ne_lt4] at O | skip)
    (try clear cs)
    (try clear v1)
    (try clear v2)
    (try clear v3)
  generalize w.heap.size = vb at O ⊢
  apply region_quiet_mem (by kernel_rfl) (by kernel_rfl)
  case O => repeat' (first | (with_reducible exact O) | (with_reducible apply Mem.drew) | (with_reducible apply Mem.drewN) | (with_reducible apply Mem.ext) | (with_reducible apply Mem.alloc) | (with_reducible apply Mem.setCell) | (simp only [ptb, ptb_upd, foots_cons, List.mem_cons, World.size_alloc, size_ext, World.size_setCell, true_or, or_true, eq_self_iff_true, ptb_listA, ptb_fam, ptb_propA, ptb_learnA, ptb_tabA]))
  case' h =>
    intro w2 O'
    (try clear O)
    have O := O'
    clear O'
    (first | simp only [sel, rst, List.cons_append, List.nil_append, World.size_alloc, size_ext, World.size_setCell, size_setMap, World.size_drew, size_drewN, upd, List.set_cons_zero, List.set_cons_succ, if_true, if_false, reduceIte, not_false_eq_true, ne_lt0, ne_lt1, ne_lt2, ne_lt3, ne_lt4, cs] at O | simp only [sel, rst, List.cons_append, List.nil_append, World.size_alloc, size_ext, World.size_setCell, size_setMap, World.size_drew, size_drewN, upd, List.set_cons_zero, List.set_cons_succ, if_true, if_false, reduceIte, not_false_eq_true, ne_lt0, ne_lt1, ne_lt2, ne_lt3, ne_lt4] at O | skip)
    (try clear cs)
    (try clear v1)
    (try clear v2)
    (try clear v3)
  have cs := O.facts
  simp only [factsP, cellsP, roomP, foots_cons, foots_nil, foots_append, foot_pt, ptb, ptb_mapA, foot_mapA, factsP_mapA, foot_bun, List.append_nil, List.nil_append, List.cons_append, List.nodup_cons, List.nodup_nil, List.mem_cons, List.not_mem_nil, List.mem_singleton, List.forall_mem_cons, not_or, not_false_eq_true, and_true, true_and, or_false, false_or, forall_eq_or_imp, forall_eq, implies_true, Nat.zero_add, Nat.reduceAdd, and_assoc, ptb_listA, factsP_listA, ptb_fam, factsP_fam, ptb_propA, factsP_propA, ptb_learnA, factsP_learnA, ptb_tabA, factsP_tabA, Nat.mul_one, sentCells, ptrCells] at cs
  repeat (go_big_quiet_step ((first | (go_at_call 8; with_reducible exact quietMem (P6.out _)))))
  refine wpQuiet_nil ?_
  intro w3 hq
  (try clear cs)
  (try clear v1)
  (try clear v2)
  (try clear v3)
  replace O := O.qext hq
  clear hq
  clear P6
  obtain ⟨g, hgB, _⟩ := listA_get sentLen (O.hold (sentA B5 d5 l5) (by simp)) HM.out
  subst hgB
  have cs := O.facts
  simp only [factsP, cellsP, roomP, foots_cons, foots_nil, foots_append, foot_pt, ptb, ptb_mapA, foot_mapA, factsP_mapA, foot_bun, List.append_nil, List.nil_append, List.cons_append, List.nodup_cons, List.nodup_nil, List.mem_cons, List.not_mem_nil, List.mem_singleton, List.forall_mem_cons, not_or, not_false_eq_true, and_true, true_and, or_false, false_or, forall_eq_or_imp, forall_eq, implies_true, Nat.zero_add, Nat.reduceAdd, and_assoc, ptb_listA, factsP_listA, ptb_fam, factsP_fam, ptb_propA, factsP_propA, ptb_learnA, factsP_learnA, ptb_tabA, factsP_tabA, Nat.mul_one, sentCells, ptrCells] at cs
  go_wp2_with fail
  first | apply Mem.atCall | apply Mem.atCode | apply Mem.atList
  case h => repeat' (first | (with_reducible exact O) | (with_reducible apply Mem.drew) | (with_reducible apply Mem.drewN) | (with_reducible apply Mem.ext) | (with_reducible apply Mem.alloc) | (with_reducible apply Mem.setCell) | (simp only [ptb, ptb_upd, foots_cons, List.mem_cons, World.size_alloc, size_ext, World.size_setCell, true_or, or_true, eq_self_iff_true, ptb_listA, ptb_fam, ptb_propA, ptb_learnA, ptb_tabA]))
  case' k =>
    intro w4 O'
    (try clear O)
    have O := O'
    clear O'
    (first | simp only [sel, rst, List.cons_append, List.nil_append, World.size_alloc, size_ext, World.size_setCell, size_setMap, World.size_drew, size_drewN, upd, List.set_cons_zero, List.set_cons_succ, if_true, if_false, reduceIte, not_false_eq_true, ne_lt0, ne_lt1, ne_lt2, ne_lt3, ne_lt4, cs] at O | simp only [sel, rst, List.cons_append, List.nil_append, World.size_alloc, size_ext, World.size_setCell, size_setMap, World.size_drew, size_drewN, upd, List.set_cons_zero, List.set_cons_succ, if_true, if_false, reduceIte, not_false_eq_true, ne_lt0, ne_lt1, ne_lt2, ne_lt3, ne_lt4] at O | skip)
    (try clear cs)
    (try clear v1)
    (try clear v2)
    (try clear v3)
  generalize w3.heap.size = sb at O ⊢
  refine (PB.out _).mono ?_
  rintro e w5 ⟨rfl, o⟩
  replace O := O.callp [] o
  clear o
  simp only [put, List.cons_append, List.nil_append] at O
  clear PB
  skip
  have cs := O.facts
  simp only [factsP, cellsP, roomP, foots_cons, foots_nil, foots_append, foot_pt, ptb, ptb_mapA, foot_mapA, factsP_mapA, foot_bun, List.append_nil, List.nil_append, List.cons_append, List.nodup_cons, List.nodup_nil, List.mem_cons, List.not_mem_nil, List.mem_singleton, List.forall_mem_cons, not_or, not_false_eq_true, and_true, true_and, or_false, false_or, forall_eq_or_imp, forall_eq, implies_true, Nat.zero_add, Nat.reduceAdd, and_assoc, ptb_listA, factsP_listA, ptb_fam, factsP_fam, ptb_propA, factsP_propA, ptb_learnA, factsP_learnA, ptb_tabA, factsP_tabA, Nat.mul_one, sentCells, ptrCells] at cs
  have v1 := (listA_at sentLen (O.hold (sentA (some ⟨g, 0, none⟩) d5 l5) (by simp)) HM.out)
  try simp only [cellsQ, roomP, and_assoc, and_true, true_and, Nat.add_zero, Nat.zero_add, Nat.reduceAdd, factsP, cellsP, roomP, foots_cons, foots_nil, foots_append, foot_pt, ptb, ptb_mapA, foot_mapA, factsP_mapA, foot_bun, List.append_nil, List.nil_append, List.cons_append, List.nodup_cons, List.nodup_nil, List.mem_cons, List.not_mem_nil, List.mem_singleton, List.forall_mem_cons, not_or, not_false_eq_true, and_true, true_and, or_false, false_or, forall_eq_or_imp, forall_eq, implies_true, Nat.zero_add, Nat.reduceAdd, and_assoc, ptb_listA, factsP_listA, ptb_fam, factsP_fam, ptb_propA, factsP_propA, ptb_learnA, factsP_learnA, ptb_tabA, factsP_tabA, Nat.mul_one, sentCells, ptrCells] at v1
  go_upto_region 35 with fail
  first | apply Mem.atCall | apply Mem.atCode | apply Mem.atList
  case h => repeat' (first | (with_reducible exact O) | (with_reducible apply Mem.drew) | (with_reducible apply Mem.drewN) | (with_reducible apply Mem.ext) | (with_reducible apply Mem.alloc) | (with_reducible apply Mem.setCell) | (simp only [ptb, ptb_upd, foots_cons, List.mem_cons, World.size_alloc, size_ext, World.size_setCell, true_or, or_true, eq_self_iff_true, ptb_listA, ptb_fam, ptb_propA, ptb_learnA, ptb_tabA]))
  case' k =>
    intro w6 O'
    (try clear O)
    have O := O'
    clear O'
    (first | simp only [sel, rst, List.cons_append, List.nil_append, World.size_alloc, size_ext, World.size_setCell, size_setMap, World.size_drew, size_drewN, upd, List.set_cons_zero, List.set_cons_succ, if_true, if_false, reduceIte, not_false_eq_true, ne_lt0, ne_lt1, ne_lt2, ne_lt3, ne_lt4, cs] at O | simp only [sel, rst, List.cons_append, List.nil_append, World.size_alloc, size_ext, World.size_setCell, size_setMap, World.size_drew, size_drewN, upd, List.set_cons_zero, List.set_cons_succ, if_true, if_false, reduceIte, not_false_eq_true, ne_lt0, ne_lt1, ne_lt2, ne_lt3, ne_lt4] at O | skip)
    (try clear cs)
    (try clear v1)
    (try clear v2)
    (try clear v3)
  obtain ⟨gt, hgt, _⟩ := listA_get (cs := ptrCells) (fun _ => rfl) (O.hold (listA 44 1 ptrCells A3 c3 (learns.map (·.1))) (by simp)) HTB.out
  subst hgt
  have O2 := O.front [false, false, false, false, false, false, false, false, true]
  simp only [sel, rst, List.cons_append, List.nil_append] at O2
  have O3 := O2.famTake HT.out
  clear O O2
  have O := O3
  clear O3
  change Mem _ _ _ (learnA lb mb l :: _) at O
  skip
  apply region_held_mem [false, false, true, false, true, false, false, true] (by kernel_rfl)
  case O => repeat' (first | (with_reducible exact O) | (with_reducible apply Mem.drew) | (with_reducible apply Mem.drewN) | (with_reducible apply Mem.ext) | (with_reducible apply Mem.alloc) | (with_reducible apply Mem.setCell) | (simp only [ptb, ptb_upd, foots_cons, List.mem_cons, World.size_alloc, size_ext, World.size_setCell, true_or, or_true, eq_self_iff_true, ptb_listA, ptb_fam, ptb_propA, ptb_learnA, ptb_tabA]))
  case' h =>
    intro wr3 O'
    (try clear O)
    have O := O'
    clear O'
    (first | simp only [sel, rst, List.cons_append, List.nil_append, World.size_alloc, size_ext, World.size_setCell, size_setMap, World.size_drew, size_drewN, upd, List.set_cons_zero, List.set_cons_succ, if_true, if_false, reduceIte, not_false_eq_true, ne_lt0, ne_lt1, ne_lt2, ne_lt3, ne_lt4, cs] at O | simp only [sel, rst, List.cons_append, List.nil_append, World.size_alloc, size_ext, World.size_setCell, size_setMap, World.size_drew, size_drewN, upd, List.set_cons_zero, List.set_cons_succ, if_true, if_false, reduceIte, not_false_eq_true, ne_lt0, ne_lt1, ne_lt2, ne_lt3, ne_lt4] at O | skip)
    (try clear cs)
    (try clear v1)
    (try clear v2)
    (try clear v3)
  refine takeH (i := 0) (v := ?v3_1) rfl (by kernel_rfl) (by kernel_rfl) (by kernel_rfl) (fun _ _ _ h => h) (by rfl) ?y3_1 (O.sel [false, false, true, false, true, false, false, true]) ?r3_1
  case y3_1 =>
    intro WW hSw
    (go_simp) <;> (with_reducible rfl)
  case' r3_1 =>
    try simp only [Act.put, List.setIfInBounds_toArray, List.set_cons_zero, List.set_cons_succ]
  refine takeH (i := 1) (v := ?v3_2) rfl (by kernel_rfl) (by kernel_rfl) (by kernel_rfl) (fun _ _ _ h => h) (by rfl) ?y3_2 (O.sel [false, false, true, false, true, false, false, true]) ?r3_2
  case y3_2 =>
    intro WW hSw
    (go_simp) <;> (with_reducible rfl)
  case' r3_2 =>
    try simp only [Act.put, List.setIfInBounds_toArray, List.set_cons_zero, List.set_cons_succ]
  refine takeH (i := 2) (v := ?v3_3) rfl (by kernel_rfl) (by kernel_rfl) (by kernel_rfl) (fun _ _ _ h => h) (by rfl) ?y3_3 (O.sel [false, false, true, false, true, false, false, true]) ?r3_3
  case y3_3 =>
    intro WW hSw
    (go_simp) <;> (with_reducible rfl)
  case' r3_3 =>
    try simp only [Act.put, List.setIfInBounds_toArray, List.set_cons_zero, List.set_cons_succ]
  refine takeH (i := 3) (v := ?v3_4) rfl (by kernel_rfl) (by kernel_rfl) (by kernel_rfl) (fun _ _ _ h => h) (by rfl) ?y3_4 (O.sel [false, false, true, false, true, false, false, true]) ?r3_4
  case y3_4 =>
    intro WW hSw
    replace hSw : Mem _ _ WW _ := hSw
    have cs := hSw.facts
    simp only [sel, factsP, cellsP, roomP, foots_cons, foots_nil, foots_append, foot_pt, ptb, ptb_mapA, foot_mapA, factsP_mapA, foot_bun, List.append_nil, List.nil_append, List.cons_append, List.nodup_cons, List.nodup_nil, List.mem_cons, List.not_mem_nil, List.mem_singleton, List.forall_mem_cons, not_or, not_false_eq_true, and_true, true_and, or_false, false_or, forall_eq_or_imp, forall_eq, implies_true, Nat.zero_add, Nat.reduceAdd, and_assoc, ptb_listA, factsP_listA, ptb_fam, factsP_fam, ptb_propA, factsP_propA, ptb_learnA, factsP_learnA, ptb_tabA, factsP_tabA, Nat.mul_one, sentCells, ptrCells] at cs
    have v1 := (listA_at (cs := ptrCells) (fun _ => rfl) (hSw.hold (listA 44 1 ptrCells (some ⟨gt, 0, none⟩) c3 (learns.map (·.1))) (by simp [sel])) HTB.out)
    try simp only [cellsQ, roomP, and_assoc, and_true, true_and, Nat.add_zero, Nat.zero_add, Nat.reduceAdd, factsP, cellsP, roomP, foots_cons, foots_nil, foots_append, foot_pt, ptb, ptb_mapA, foot_mapA, factsP_mapA, foot_bun, List.append_nil, List.nil_append, List.cons_append, List.nodup_cons, List.nodup_nil, List.mem_cons, List.not_mem_nil, List.mem_singleton, List.forall_mem_cons, not_or, not_false_eq_true, and_true, true_and, or_false, false_or, forall_eq_or_imp, forall_eq, implies_true, Nat.zero_add, Nat.reduceAdd, and_assoc, ptb_listA, factsP_listA, ptb_fam, factsP_fam, ptb_propA, factsP_propA, ptb_learnA, factsP_learnA, ptb_tabA, factsP_tabA, Nat.mul_one, sentCells, ptrCells] at v1
    (go_simp) <;> (with_reducible rfl)
  case' r3_4 =>
    try simp only [Act.put, List.setIfInBounds_toArray, List.set_cons_zero, List.set_cons_succ]
  refine takeH (i := 4) (v := ?v3_5) rfl (by kernel_rfl) (by kernel_rfl) (by kernel_rfl) (fun _ _ _ h => h) (by rfl) ?y3_5 (O.sel [false, false, true, false, true, false, false, true]) ?r3_5
  case y3_5 =>
    intro WW hSw
    (go_simp) <;> (with_reducible rfl)
  case' r3_5 =>
    try simp only [Act.put, List.setIfInBounds_toArray, List.set_cons_zero, List.set_cons_succ]
  refine takeH (i := 5) (v := ?v3_6) rfl (by kernel_rfl) (by kernel_rfl) (by kernel_rfl) (fun _ _ _ h => h) (by rfl) ?y3_6 (O.sel [false, false, true, false, true, false, false, true]) ?r3_6
  case y3_6 =>
    intro WW hSw
    replace hSw : Mem _ _ WW _ := hSw
    have cs := hSw.facts
    simp only [sel, factsP, cellsP, roomP, foots_cons, foots_nil, foots_append, foot_pt, ptb, ptb_mapA, foot_mapA, factsP_mapA, foot_bun, List.append_nil, List.nil_append, List.cons_append, List.nodup_cons, List.nodup_nil, List.mem_cons, List.not_mem_nil, List.mem_singleton, List.forall_mem_cons, not_or, not_false_eq_true, and_true, true_and, or_false, false_or, forall_eq_or_imp, forall_eq, implies_true, Nat.zero_add, Nat.reduceAdd, and_assoc, ptb_listA, factsP_listA, ptb_fam, factsP_fam, ptb_propA, factsP_propA, ptb_learnA, factsP_learnA, ptb_tabA, factsP_tabA, Nat.mul_one, sentCells, ptrCells] at cs
    have v1 := (listA_at (cs := ptrCells) (fun _ => rfl) (hSw.hold (listA 44 1 ptrCells (some ⟨gt, 0, none⟩) c3 (learns.map (·.1))) (by simp [sel])) HTB.out)
    try simp only [cellsQ, roomP, and_assoc, and_true, true_and, Nat.add_zero, Nat.zero_add, Nat.reduceAdd, factsP, cellsP, roomP, foots_cons, foots_nil, foots_append, foot_pt, ptb, ptb_mapA, foot_mapA, factsP_mapA, foot_bun, List.append_nil, List.nil_append, List.cons_append, List.nodup_cons, List.nodup_nil, List.mem_cons, List.not_mem_nil, List.mem_singleton, List.forall_mem_cons, not_or, not_false_eq_true, and_true, true_and, or_false, false_or, forall_eq_or_imp, forall_eq, implies_true, Nat.zero_add, Nat.reduceAdd, and_assoc, ptb_listA, factsP_listA, ptb_fam, factsP_fam, ptb_propA, factsP_propA, ptb_learnA, factsP_learnA, ptb_tabA, factsP_tabA, Nat.mul_one, sentCells, ptrCells] at v1
    (go_simp) <;> (with_reducible rfl)
  case' r3_6 =>
    try simp only [Act.put, List.setIfInBounds_toArray, List.set_cons_zero, List.set_cons_succ]
  refine takeH (i := 6) (v := ?v3_7) rfl (by kernel_rfl) (by kernel_rfl) (by kernel_rfl) (fun _ _ _ h => h) (by rfl) ?y3_7 (O.sel [false, false, true, false, true, false, false, true]) ?r3_7
  case y3_7 =>
    intro WW hSw
    replace hSw : Mem _ _ WW _ := hSw
    have cs := hSw.facts
    simp only [sel, factsP, cellsP, roomP, foots_cons, foots_nil, foots_append, foot_pt, ptb, ptb_mapA, foot_mapA, factsP_mapA, foot_bun, List.append_nil, List.nil_append, List.cons_append, List.nodup_cons, List.nodup_nil, List.mem_cons, List.not_mem_nil, List.mem_singleton, List.forall_mem_cons, not_or, not_false_eq_true, and_true, true_and, or_false, false_or, forall_eq_or_imp, forall_eq, implies_true, Nat.zero_add, Nat.reduceAdd, and_assoc, ptb_listA, factsP_listA, ptb_fam, factsP_fam, ptb_propA, factsP_propA, ptb_learnA, factsP_learnA, ptb_tabA, factsP_tabA, Nat.mul_one, sentCells, ptrCells] at cs
    have v1 := (listA_at (cs := ptrCells) (fun _ => rfl) (hSw.hold (listA 44 1 ptrCells (some ⟨gt, 0, none⟩) c3 (learns.map (·.1))) (by simp [sel])) HTB.out)
    try simp only [cellsQ, roomP, and_assoc, and_true, true_and, Nat.add_zero, Nat.zero_add, Nat.reduceAdd, factsP, cellsP, roomP, foots_cons, foots_nil, foots_append, foot_pt, ptb, ptb_mapA, foot_mapA, factsP_mapA, foot_bun, List.append_nil, List.nil_append, List.cons_append, List.nodup_cons, List.nodup_nil, List.mem_cons, List.not_mem_nil, List.mem_singleton, List.forall_mem_cons, not_or, not_false_eq_true, and_true, true_and, or_false, false_or, forall_eq_or_imp, forall_eq, implies_true, Nat.zero_add, Nat.reduceAdd, and_assoc, ptb_listA, factsP_listA, ptb_fam, factsP_fam, ptb_propA, factsP_propA, ptb_learnA, factsP_learnA, ptb_tabA, factsP_tabA, Nat.mul_one, sentCells, ptrCells] at v1
    (go_simp) <;> (with_reducible rfl)
  case' r3_7 =>
    try simp only [Act.put, List.setIfInBounds_toArray, List.set_cons_zero, List.set_cons_succ]
  refine takeH (i := 7) (v := ?v3_8) rfl (by kernel_rfl) (by kernel_rfl) (by kernel_rfl) (fun _ _ _ h => h) (by rfl) ?y3_8 (O.sel [false, false, true, false, true, false, false, true]) ?r3_8
  case y3_8 =>
    intro WW hSw
    replace hSw : Mem _ _ WW _ := hSw
    have cs := hSw.facts
    simp only [sel, factsP, cellsP, roomP, foots_cons, foots_nil, foots_append, foot_pt, ptb, ptb_mapA, foot_mapA, factsP_mapA, foot_bun, List.append_nil, List.nil_append, List.cons_append, List.nodup_cons, List.nodup_nil, List.mem_cons, List.not_mem_nil, List.mem_singleton, List.forall_mem_cons, not_or, not_false_eq_true, and_true, true_and, or_false, false_or, forall_eq_or_imp, forall_eq, implies_true, Nat.zero_add, Nat.reduceAdd, and_assoc, ptb_listA, factsP_listA, ptb_fam, factsP_fam, ptb_propA, factsP_propA, ptb_learnA, factsP_learnA, ptb_tabA, factsP_tabA, Nat.mul_one, sentCells, ptrCells] at cs
    have v1 := (listA_at (cs := ptrCells) (fun _ => rfl) (hSw.hold (listA 44 1 ptrCells (some ⟨gt, 0, none⟩) c3 (learns.map (·.1))) (by simp [sel])) HTB.out)
    try simp only [cellsQ, roomP, and_assoc, and_true, true_and, Nat.add_zero, Nat.zero_add, Nat.reduceAdd, factsP, cellsP, roomP, foots_cons, foots_nil, foots_append, foot_pt, ptb, ptb_mapA, foot_mapA, factsP_mapA, foot_bun, List.append_nil, List.nil_append, List.cons_append, List.nodup_cons, List.nodup_nil, List.mem_cons, List.not_mem_nil, List.mem_singleton, List.forall_mem_cons, not_or, not_false_eq_true, and_true, true_and, or_false, false_or, forall_eq_or_imp, forall_eq, implies_true, Nat.zero_add, Nat.reduceAdd, and_assoc, ptb_listA, factsP_listA, ptb_fam, factsP_fam, ptb_propA, factsP_propA, ptb_learnA, factsP_learnA, ptb_tabA, factsP_tabA, Nat.mul_one, sentCells, ptrCells] at v1
    (go_simp) <;> (with_reducible rfl)
  case' r3_8 =>
    try simp only [Act.put, List.setIfInBounds_toArray, List.set_cons_zero, List.set_cons_succ]
  refine takeH (i := 8) (v := ?v3_9) rfl (by kernel_rfl) (by kernel_rfl) (by kernel_rfl) (fun _ _ _ h => h) (by rfl) ?y3_9 (O.sel [false, false, true, false, true, false, false, true]) ?r3_9
  case y3_9 =>
    intro WW hSw
    (go_simp) <;> (with_reducible rfl)
  case' r3_9 =>
    try simp only [Act.put, List.setIfInBounds_toArray, List.set_cons_zero, List.set_cons_succ]
  refine takeH (i := 9) (v := ?v3_10) rfl (by kernel_rfl) (by kernel_rfl) (by kernel_rfl) (fun _ _ _ h => h) (by rfl) ?y3_10 (O.sel [false, false, true, false, true, false, false, true]) ?r3_10
  case y3_10 =>
    intro WW hSw
    replace hSw : Mem _ _ WW _ := hSw
    have cs := hSw.facts
    simp only [sel, factsP, cellsP, roomP, foots_cons, foots_nil, foots_append, foot_pt, ptb, ptb_mapA, foot_mapA, factsP_mapA, foot_bun, List.append_nil, List.nil_append, List.cons_append, List.nodup_cons, List.nodup_nil, List.mem_cons, List.not_mem_nil, List.mem_singleton, List.forall_mem_cons, not_or, not_false_eq_true, and_true, true_and, or_false, false_or, forall_eq_or_imp, forall_eq, implies_true, Nat.zero_add, Nat.reduceAdd, and_assoc, ptb_listA, factsP_listA, ptb_fam, factsP_fam, ptb_propA, factsP_propA, ptb_learnA, factsP_learnA, ptb_tabA, factsP_tabA, Nat.mul_one, sentCells, ptrCells] at cs
    have v1 := (listA_at (cs := ptrCells) (fun _ => rfl) (hSw.hold (listA 44 1 ptrCells (some ⟨gt, 0, none⟩) c3 (learns.map (·.1))) (by simp [sel])) HTB.out)
    try simp only [cellsQ, roomP, and_assoc, and_true, true_and, Nat.add_zero, Nat.zero_add, Nat.reduceAdd, factsP, cellsP, roomP, foots_cons, foots_nil, foots_append, foot_pt, ptb, ptb_mapA, foot_mapA, factsP_mapA, foot_bun, List.append_nil, List.nil_append, List.cons_append, List.nodup_cons, List.nodup_nil, List.mem_cons, List.not_mem_nil, List.mem_singleton, List.forall_mem_cons, not_or, not_false_eq_true, and_true, true_and, or_false, false_or, forall_eq_or_imp, forall_eq, implies_true, Nat.zero_add, Nat.reduceAdd, and_assoc, ptb_listA, factsP_listA, ptb_fam, factsP_fam, ptb_propA, factsP_propA, ptb_learnA, factsP_learnA, ptb_tabA, factsP_tabA, Nat.mul_one, sentCells, ptrCells] at v1
    (go_simp) <;> (with_reducible rfl)
  case' r3_10 =>
    try simp only [Act.put, List.setIfInBounds_toArray, List.set_cons_zero, List.set_cons_succ]
  refine takeH (i := 10) (v := ?v3_11) rfl (by kernel_rfl) (by kernel_rfl) (by kernel_rfl) (fun _ _ _ h => h) (by rfl) ?y3_11 (O.sel [false, false, true, false, true, false, false, true]) ?r3_11
  case y3_11 =>
    intro WW hSw
    (go_simp) <;> (with_reducible rfl)
  case' r3_11 =>
    try simp only [Act.put, List.setIfInBounds_toArray, List.set_cons_zero, List.set_cons_succ]
  refine takeH (i := 11) (v := ?v3_12) rfl (by kernel_rfl) (by kernel_rfl) (by kernel_rfl) (fun _ _ _ h => h) (by rfl) ?y3_12 (O.sel [false, false, true, false, true, false, false, true]) ?r3_12
  case y3_12 =>
    intro WW hSw
    replace hSw : Mem _ _ WW _ := hSw
    have cs := hSw.facts
    simp only [sel, factsP, cellsP, roomP, foots_cons, foots_nil, foots_append, foot_pt, ptb, ptb_mapA, foot_mapA, factsP_mapA, foot_bun, List.append_nil, List.nil_append, List.cons_append, List.nodup_cons, List.nodup_nil, List.mem_cons, List.not_mem_nil, List.mem_singleton, List.forall_mem_cons, not_or, not_false_eq_true, and_true, true_and, or_false, false_or, forall_eq_or_imp, forall_eq, implies_true, Nat.zero_add, Nat.reduceAdd, and_assoc, ptb_listA, factsP_listA, ptb_fam, factsP_fam, ptb_propA, factsP_propA, ptb_learnA, factsP_learnA, ptb_tabA, factsP_tabA, Nat.mul_one, sentCells, ptrCells] at cs
    have v1 := (listA_at (cs := ptrCells) (fun _ => rfl) (hSw.hold (listA 44 1 ptrCells (some ⟨gt, 0, none⟩) c3 (learns.map (·.1))) (by simp [sel])) HTB.out)
    try simp only [cellsQ, roomP, and_assoc, and_true, true_and, Nat.add_zero, Nat.zero_add, Nat.reduceAdd, factsP, cellsP, roomP, foots_cons, foots_nil, foots_append, foot_pt, ptb, ptb_mapA, foot_mapA, factsP_mapA, foot_bun, List.append_nil, List.nil_append, List.cons_append, List.nodup_cons, List.nodup_nil, List.mem_cons, List.not_mem_nil, List.mem_singleton, List.forall_mem_cons, not_or, not_false_eq_true, and_true, true_and, or_false, false_or, forall_eq_or_imp, forall_eq, implies_true, Nat.zero_add, Nat.reduceAdd, and_assoc, ptb_listA, factsP_listA, ptb_fam, factsP_fam, ptb_propA, factsP_propA, ptb_learnA, factsP_learnA, ptb_tabA, factsP_tabA, Nat.mul_one, sentCells, ptrCells] at v1
    (go_simp) <;> (with_reducible rfl)
  case' r3_12 =>
    try simp only [Act.put, List.setIfInBounds_toArray, List.set_cons_zero, List.set_cons_succ]
  refine takeH (i := 12) (v := ?v3_13) rfl (by kernel_rfl) (by kernel_rfl) (by kernel_rfl) (fun _ _ _ h => h) (by rfl) ?y3_13 (O.sel [false, false, true, false, true, false, false, true]) ?r3_13
  case y3_13 =>
    intro WW hSw
    (go_simp) <;> (with_reducible rfl)
  case' r3_13 =>
    try simp only [Act.put, List.setIfInBounds_toArray, List.set_cons_zero, List.set_cons_succ]
  refine takeH (i := 13) (v := ?v3_14) rfl (by kernel_rfl) (by kernel_rfl) (by kernel_rfl) (fun _ _ _ h => h) (by rfl) ?y3_14 (O.sel [false, false, true, false, true, false, false, true]) ?r3_14
  case y3_14 =>
    intro WW hSw
    replace hSw : Mem _ _ WW _ := hSw
    have cs := hSw.facts
    simp only [sel, factsP, cellsP, roomP, foots_cons, foots_nil, foots_append, foot_pt, ptb, ptb_mapA, foot_mapA, factsP_mapA, foot_bun, List.append_nil, List.nil_append, List.cons_append, List.nodup_cons, List.nodup_nil, List.mem_cons, List.not_mem_nil, List.mem_singleton, List.forall_mem_cons, not_or, not_false_eq_true, and_true, true_and, or_false, false_or, forall_eq_or_imp, forall_eq, implies_true, Nat.zero_add, Nat.reduceAdd, and_assoc, ptb_listA, factsP_listA, ptb_fam, factsP_fam, ptb_propA, factsP_propA, ptb_learnA, factsP_learnA, ptb_tabA, factsP_tabA, Nat.mul_one, sentCells, ptrCells] at cs
    have v1 := (listA_at (cs := ptrCells) (fun _ => rfl) (hSw.hold (listA 44 1 ptrCells (some ⟨gt, 0, none⟩) c3 (learns.map (·.1))) (by simp [sel])) HTB.out)
    try simp only [cellsQ, roomP, and_assoc, and_true, true_and, Nat.add_zero, Nat.zero_add, Nat.reduceAdd, factsP, cellsP, roomP, foots_cons, foots_nil, foots_append, foot_pt, ptb, ptb_mapA, foot_mapA, factsP_mapA, foot_bun, List.append_nil, List.nil_append, List.cons_append, List.nodup_cons, List.nodup_nil, List.mem_cons, List.not_mem_nil, List.mem_singleton, List.forall_mem_cons, not_or, not_false_eq_true, and_true, true_and, or_false, false_or, forall_eq_or_imp, forall_eq, implies_true, Nat.zero_add, Nat.reduceAdd, and_assoc, ptb_listA, factsP_listA, ptb_fam, factsP_fam, ptb_propA, factsP_propA, ptb_learnA, factsP_learnA, ptb_tabA, factsP_tabA, Nat.mul_one, sentCells, ptrCells] at v1
    (go_simp) <;> (with_reducible rfl)
  case' r3_14 =>
    try simp only [Act.put, List.setIfInBounds_toArray, List.set_cons_zero, List.set_cons_succ]
  refine wpAnyH_ready (rs := [14]) (by kernel_rfl) (by simp) ?_
  refine consH rfl (fun K hK => ?_) AllReadyH.nil
  have cs := O.facts
  simp only [factsP, cellsP, roomP, foots_cons, foots_nil, foots_append, foot_pt, ptb, ptb_mapA, foot_mapA, factsP_mapA, foot_bun, List.append_nil, List.nil_append, List.cons_append, List.nodup_cons, List.nodup_nil, List.mem_cons, List.not_mem_nil, List.mem_singleton, List.forall_mem_cons, not_or, not_false_eq_true, and_true, true_and, or_false, false_or, forall_eq_or_imp, forall_eq, implies_true, Nat.zero_add, Nat.reduceAdd, and_assoc, ptb_listA, factsP_listA, ptb_fam, factsP_fam, ptb_propA, factsP_propA, ptb_learnA, factsP_learnA, ptb_tabA, factsP_tabA, Nat.mul_one, sentCells, ptrCells] at cs
  have v1 := (listA_at (cs := ptrCells) (fun _ => rfl) (O.hold (listA 44 1 ptrCells (some ⟨gt, 0, none⟩) c3 (learns.map (·.1))) (by simp [sel])) HTB.out)
  try simp only [cellsQ, roomP, and_assoc, and_true, true_and, Nat.add_zero, Nat.zero_add, Nat.reduceAdd, factsP, cellsP, roomP, foots_cons, foots_nil, foots_append, foot_pt, ptb, ptb_mapA, foot_mapA, factsP_mapA, foot_bun, List.append_nil, List.nil_append, List.cons_append, List.nodup_cons, List.nodup_nil, List.mem_cons, List.not_mem_nil, List.mem_singleton, List.forall_mem_cons, not_or, not_false_eq_true, and_true, true_and, or_false, false_or, forall_eq_or_imp, forall_eq, implies_true, Nat.zero_add, Nat.reduceAdd, and_assoc, ptb_listA, factsP_listA, ptb_fam, factsP_fam, ptb_propA, factsP_propA, ptb_learnA, factsP_learnA, ptb_tabA, factsP_tabA, Nat.mul_one, sentCells, ptrCells] at v1
  go_simp
  apply Mem.atCall
  case h => repeat' (first | (with_reducible exact O) | (with_reducible apply Mem.drew) | (with_reducible apply Mem.drewN) | (with_reducible apply Mem.ext) | (with_reducible apply Mem.alloc) | (with_reducible apply Mem.setCell) | (simp only [ptb, ptb_upd, foots_cons, List.mem_cons, World.size_alloc, size_ext, World.size_setCell, true_or, or_true, eq_self_iff_true, ptb_listA, ptb_fam, ptb_propA, ptb_learnA, ptb_tabA]))
  intro w3_15 O'
  (try clear O)
  have O := O'
  clear O'
  (first | simp only [sel, rst, List.cons_append, List.nil_append, World.size_alloc, size_ext, World.size_setCell, size_setMap, World.size_drew, size_drewN, upd, List.set_cons_zero, List.set_cons_succ, if_true, if_false, reduceIte, not_false_eq_true, ne_lt0, ne_lt1, ne_lt2, ne_lt3, ne_lt4, cs] at O | simp only [sel, rst, List.cons_append, List.nil_append, World.size_alloc, size_ext, World.size_setCell, size_setMap, World.size_drew, size_drewN, upd, List.set_cons_zero, List.set_cons_succ, if_true, if_false, reduceIte, not_false_eq_true, ne_lt0, ne_lt1, ne_lt2, ne_lt3, ne_lt4] at O | skip)
  (try clear cs)
  (try clear v1)
  (try clear v2)
  (try clear v3)
  refine (PR.out _ (O.pre [true])).mono ?_
  rintro e w3_15' ⟨rfl, o⟩
  replace O := O.callp [true] o
  clear o
  simp only [put, List.cons_append, List.nil_append] at O
  go_wp2_with fail
  refine hK.out _ _ (O.sel [false, false, true, false, true, false, false, true]) (fun _ => ?_)
  clear hK K
  refine wpAnyH_done (by kernel_rfl) ?_ _
  have HMV := Lib.hid MV
  clear MV PR
  have hlt : mto < learns.length := (List.getElem?_eq_some_iff.1 HT.out).1
  have O3 : Mem w fp _ (learnF (lb, mb, l') :: fam learnF (learns.eraseIdx mto) :: _) := O
  have O4 := (O3.famPut hlt).sink 8
  clear O O3
  have O := O4
  clear O4
  simp only [List.take_succ_cons, List.take_zero, List.drop_succ_cons, List.drop_zero, List.cons_append, List.nil_append] at O
  have e : (learns.set mto (lb, mb, l')).map (·.2.2) = (learns.map (·.2.2)).set mto l' := by rw [List.map_set]
  have HE := Lib.hid e
  clear e hlt
  skip
  have cs := O.facts
  simp only [factsP, cellsP, roomP, foots_cons, foots_nil, foots_append, foot_pt, ptb, ptb_mapA, foot_mapA, factsP_mapA, foot_bun, List.append_nil, List.nil_append, List.cons_append, List.nodup_cons, List.nodup_nil, List.mem_cons, List.not_mem_nil, List.mem_singleton, List.forall_mem_cons, not_or, not_false_eq_true, and_true, true_and, or_false, false_or, forall_eq_or_imp, forall_eq, implies_true, Nat.zero_add, Nat.reduceAdd, and_assoc, ptb_listA, factsP_listA, ptb_fam, factsP_fam, ptb_propA, factsP_propA, ptb_learnA, factsP_learnA, ptb_tabA, factsP_tabA, Nat.mul_one, sentCells, ptrCells] at cs
  go_wp2_with fail
  refine bodyPost_end (results_none rfl _ _ _) rfl ⟨rfl, ?_⟩
  refine ⟨⟨A1, c1, A2, c2, (some ⟨gt, 0, none⟩), c3, tabs, props, (learns.set mto (lb, mb, l')), round, vote, B2, d2, l2, B3, d3, l3, B4, d4, l4, (some ⟨g, 0, none⟩), d5, l5⟩, ?_, ?_, by simp only [PxM.size]; omega, HMO.out, rfl, map_set_fst HT.out rfl⟩
  · unfold PxM.st
    simp only [HE.out]
    exact HMV.out
  · rw [← HF.out]
    simp only [PxM.parts, PxM.cells, map_set_fst (f := fun x : Nat × Nat × Learn11 => x.1) (a' := (lb, mb, l')) HT.out rfl]
    exact O.sel [false, false, true, true, true, true, true, true, true, true, true, true, true]
end Go.Proofs.Ytkhpikjmhamppaa
