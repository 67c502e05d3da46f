/- WALK: the live question of chapter 20. -/
import Derived.Test.YtomcekjhehceoaaSesC20
import Derived.Test.YtomcekjhehceoaaSesF20
set_option linter.unusedVariables false
set_option linter.unusedSimpArgs false
namespace Go.Proofs.Ytomcekjhehceoaa
open Go.RowKit Go.Tk
theorem logsOk_of {ls : List LogM} (h : ∀ p ∈ ls.map LogM.p, Rising p.now ∧ p.now.length ≤ 8) : LogsOk ls := fun E hE => h E.p (List.mem_map.2 ⟨E, hE, rfl⟩)
theorem logsFit_of {ls : List LogM} (h : ∀ p ∈ ls.map LogM.p, p.was.length ≤ 8 ∧ p.now.length ≤ 8 ∧ ∀ e ∈ p.now, e.1.size ≤ 1048576 ∧ e.2.size ≤ 1048576) : LogsFit ls := fun E hE => h E.p (List.mem_map.2 ⟨E, hE, rfl⟩)
theorem ents_nil (W : World) : Ents W (.slice none 0 0) [] := ⟨by simp, by simp, none, 0, rfl, by simp⟩
theorem errV_none : errV none = .nilIface := rfl
def pA : ByteArray := ⟨#[97]⟩
def p1 : ByteArray := ⟨#[49]⟩
def inc0 (k : Nat) : Int := if k = 3 then 0 else 1
theorem pA_size : pA.size ≤ 1048576 := of_decide_eq_true (by kernel_rfl)
theorem p1_size : p1.size ≤ 1048576 := of_decide_eq_true (by kernel_rfl)
theorem bucket_pA : bucketOf pA = 24 := by kernel_rfl
def liveP (now : List En) : LogP := ⟨24, 0, inc0, [], now⟩
theorem live1 : codeP false [] pA .empty = 202 := by unfold codeP; simp [show mayKey pA = true by kernel_rfl, show mayValue .empty = true by kernel_rfl, hasP]
theorem live1g : gotP false [] pA = (.empty, false) := by unfold gotP; rw [live1]; simp
theorem live2 : learnS false [] ⟨24, 0, false, .slice none 0 0, [], inc0⟩ [] = (0, [liveP []]) := by
  unfold learnS
  have h : learnBad ⟨24, 0, false, .slice none 0 0, [], inc0⟩ [] = false := by
    simp [learnBad, ItemR.right, zeros, inc0, entsOk]
  rw [h]
  simp [hasP, liveP]
theorem live3c (l : List En) (v : ByteArray) (hv : mayValue v = true) : codeP false [liveP l] pA v = 0 := by unfold codeP; simp [show mayKey pA = true by kernel_rfl, hv, hasP, liveP, bucket_pA]
theorem live_now (l : List En) : nowP [liveP l] (bucketOf pA) = l := by simp [nowP, liveP, bucket_pA]
theorem live3 : putS false [liveP []] pA p1 = (0, [liveP [(pA, p1)]]) := by
  unfold putS
  rw [live3c [] p1 (by kernel_rfl), live_now]
  simp [isK, lbK, putK, setNow, liveP, bucket_pA]
theorem live4 : gotP false [liveP [(pA, p1)]] pA = (p1, true) := by
  unfold gotP
  rw [live3c _ .empty (by kernel_rfl), live_now]
  have h : lbK pA [(pA, p1)] = 0 := by simp [lbK, ltK_irrefl]
  simp [isK, getK, h]
theorem live5 : commitP [liveP [(pA, p1)]] = [⟨24, 0, true, [(pA, p1)], inc0⟩] := by
  simp [commitP, keysP, atP, coreP, liveP]
theorem core_one {s : List ItS} {x : Core} (h : s.map ItS.core = [x]) : ∃ B d, s = [⟨x.bucket, x.ver, x.write, B, d, x.ents, x.inc⟩] := by
  match s, h with
  | [y], h =>
    simp only [List.map_cons, List.map_nil, List.cons.injEq, and_true] at h
    obtain ⟨a, b, c, B, d, e, f⟩ := y
    subst h
    exact ⟨B, d, rfl⟩
  | [], h => simp at h
  | _ :: _ :: _, h => simp at h
set_option maxRecDepth 100000 in
set_option maxHeartbeats 8000000 in
theorem law_alive20 (w : World) : Calls Try.prog 9 #[] w (fun e w' => e = .returned (.bool true) ∧ Mem w [] w' []) := by
  have O : Mem w [] w [] := Mem.begin
  have EN : ∀ W, (binOp .neq 25 .nilIface .nilIface).run Try.prog W = .ok (.bool false) W := fun W => by kernel_rfl
  have EQ : ∀ W, (binOp .eql 25 .nilIface .nilIface).run Try.prog W = .ok (.bool true) W := fun W => by kernel_rfl
  go_enter Try.func9, Try.ntmps9
  have cs := O.facts
  try simp only [factsP, cellsP, roomP, foots_cons, foots_nil, foots_append, foot_pt, ptb, ptb_mapA, foot_mapA, factsP_mapA, foot_bun, List.append_nil, List.nil_append, List.cons_append, List.nodup_cons, List.nodup_nil, List.mem_cons, List.not_mem_nil, List.mem_singleton, List.forall_mem_cons, not_or, not_false_eq_true, and_true, true_and, or_false, false_or, forall_eq_or_imp, forall_eq, implies_true, Nat.zero_add, Nat.reduceAdd, and_assoc, upd_listA, upd_mapA, upd_bun, upd_fam, upd_datasA, ptb_datasA, factsP_datasA, ptb_listA, factsP_listA, factsP_mapA, ptb_mapA, Nat.mul_one, factsP_bun, ptb_bun, ptb_fam, factsP_fam, factsP_errA, ptb_errA, upd_errA, itCells, Nat.zero_mul, List.length_cons, List.length_nil] at cs
  go_wp2_with fail
  refine (s_New _ 1 0 0 1 2 (by decide) (by decide) (by decide) (by decide) (by decide) (by decide) (by decide) (by decide)).mono ?_
  rintro e w1 ⟨S, hS1, hS2, hS3, hS4, hS5, rfl, o⟩
  replace O := O.callp [] o
  clear o
  simp only [put, List.append_nil] at O
  have CG1 := Lib.hid (fun W (hW : Pre W (sesL S false [])) => s_Get W S false [] pA pA_size (fun E hE => by simp at hE) hW)
  simp only [List.map_nil, live1g, live1] at CG1
  have CL := Lib.hid (fun W (hW : Pre W (sesL S false [])) => s_Learn W S false [] ⟨24, 0, false, .slice none 0 0, [], inc0⟩ none 0 [] (by decide) hW (fun W' _ => ⟨ents_nil W', ents_nil W'⟩))
  simp only [List.map_nil, live2, List.length_nil] at CL
  simp only [ItemR.val, inc0] at CL
  simp only [SesH.val] at CG1 CL ⊢
  simp only [pA] at CG1
  simp only [sesL] at O
  have cs := O.facts
  try simp only [factsP, cellsP, roomP, foots_cons, foots_nil, foots_append, foot_pt, ptb, ptb_mapA, foot_mapA, factsP_mapA, foot_bun, List.append_nil, List.nil_append, List.cons_append, List.nodup_cons, List.nodup_nil, List.mem_cons, List.not_mem_nil, List.mem_singleton, List.forall_mem_cons, not_or, not_false_eq_true, and_true, true_and, or_false, false_or, forall_eq_or_imp, forall_eq, implies_true, Nat.zero_add, Nat.reduceAdd, and_assoc, upd_listA, upd_mapA, upd_bun, upd_fam, upd_datasA, ptb_datasA, factsP_datasA, ptb_listA, factsP_listA, factsP_mapA, ptb_mapA, Nat.mul_one, factsP_bun, ptb_bun, ptb_fam, factsP_fam, factsP_errA, ptb_errA, upd_errA, itCells, Nat.zero_mul, List.length_cons, List.length_nil] at cs
  go_wp2_with fail
  refine (CG1.out _ O.preAll).mono ?_
  rintro e w2 ⟨q1, rfl, hq1, o⟩
  replace O := O.callp [] o
  clear o CG1
  simp only [put, List.cons_append, List.nil_append] at O
  have cs := O.facts
  try simp only [factsP, cellsP, roomP, foots_cons, foots_nil, foots_append, foot_pt, ptb, ptb_mapA, foot_mapA, factsP_mapA, foot_bun, List.append_nil, List.nil_append, List.cons_append, List.nodup_cons, List.nodup_nil, List.mem_cons, List.not_mem_nil, List.mem_singleton, List.forall_mem_cons, not_or, not_false_eq_true, and_true, true_and, or_false, false_or, forall_eq_or_imp, forall_eq, implies_true, Nat.zero_add, Nat.reduceAdd, and_assoc, upd_listA, upd_mapA, upd_bun, upd_fam, upd_datasA, ptb_datasA, factsP_datasA, ptb_listA, factsP_listA, factsP_mapA, ptb_mapA, Nat.mul_one, factsP_bun, ptb_bun, ptb_fam, factsP_fam, factsP_errA, ptb_errA, upd_errA, itCells, Nat.zero_mul, List.length_cons, List.length_nil] at cs
  go_wp2_with fail
  refine (CL.out _ (O.pre [false, true, true, true])).mono ?_
  rintro e w3 ⟨q2, ls2, rfl, hq2, hp2, o⟩
  obtain rfl : q2 = none := hq2.2 rfl
  have O2 := (O.call [false, true, true, true] o).sel [true, true, true, false, true]
  clear O o CL
  have O := O2
  clear O2
  simp only [sesL, Tk.sel, rst, List.cons_append, List.nil_append] at O
  have hok2 : LogsOk ls2 := logsOk_of (by rw [hp2]; intro p hp; simp only [List.mem_singleton] at hp; subst hp; exact ⟨List.Pairwise.nil, by simp [liveP]⟩)
  have CP := Lib.hid (fun W (hW : Pre W (sesL S false ls2)) => s_Put W S false ls2 pA p1 pA_size p1_size hok2 hW)
  simp only [hp2, live3] at CP
  simp only [SesH.val, pA, p1] at CP
  clear hok2 hp2 hq2
  have cs := O.facts
  try simp only [factsP, cellsP, roomP, foots_cons, foots_nil, foots_append, foot_pt, ptb, ptb_mapA, foot_mapA, factsP_mapA, foot_bun, List.append_nil, List.nil_append, List.cons_append, List.nodup_cons, List.nodup_nil, List.mem_cons, List.not_mem_nil, List.mem_singleton, List.forall_mem_cons, not_or, not_false_eq_true, and_true, true_and, or_false, false_or, forall_eq_or_imp, forall_eq, implies_true, Nat.zero_add, Nat.reduceAdd, and_assoc, upd_listA, upd_mapA, upd_bun, upd_fam, upd_datasA, ptb_datasA, factsP_datasA, ptb_listA, factsP_listA, factsP_mapA, ptb_mapA, Nat.mul_one, factsP_bun, ptb_bun, ptb_fam, factsP_fam, factsP_errA, ptb_errA, upd_errA, itCells, Nat.zero_mul, List.length_cons, List.length_nil] at cs
  go_wp2_with fail
  refine (CP.out _ (O.pre [true, true, true])).mono ?_
  rintro e w4 ⟨q3, ls3, rfl, hq3, hp3, o⟩
  obtain rfl : q3 = none := hq3.2 rfl
  have O2 := (O.call [true, true, true] o).sel [true, true, true, false, true]
  clear O o CP
  have O := O2
  clear O2
  simp only [sesL, Tk.sel, rst, List.cons_append, List.nil_append] at O
  have hp3 : ls3.map LogM.p = [liveP [(pA, p1)]] := hp3
  have hok3 : LogsOk ls3 := logsOk_of (by rw [hp3]; intro p hp; simp only [List.mem_singleton] at hp; subst hp; exact ⟨by simp [liveP, Rising], by simp [liveP]⟩)
  have hfit3 : LogsFit ls3 := logsFit_of (by
    rw [hp3]; intro p hp; simp only [List.mem_singleton] at hp; subst hp
    refine ⟨by simp [liveP], by simp [liveP], fun e he => ?_⟩
    simp only [liveP, List.mem_singleton] at he
    subst he
    exact ⟨pA_size, p1_size⟩)
  have hln3 : ls3.length = 1 := by have := congrArg List.length hp3; simpa using this
  have hbk3 : ∀ E ∈ ls3, 0 ≤ E.bucket ∧ E.bucket < 64 := fun E hE => by
    have : E.p ∈ ls3.map LogM.p := List.mem_map.2 ⟨E, hE, rfl⟩
    rw [hp3, List.mem_singleton] at this
    have h2 := congrArg LogP.bucket this
    simp only [LogM.p, liveP] at h2
    omega
  have CG2 := Lib.hid (fun W (hW : Pre W (sesL S false ls3)) => s_Get W S false ls3 pA pA_size hok3 hW)
  simp only [hp3, live4, live3c _ _ (show mayValue .empty = true by kernel_rfl)] at CG2
  have CC := Lib.hid (fun W (hW : Pre W (sesL S false ls3)) => s_Commit W S ls3 (by intro e; rw [e] at hln3; simp at hln3) (by omega) hfit3 hbk3 hW)
  simp only [hp3, live5] at CC
  have CT := Lib.hid (fun W (hW : Pre W [errA q1 202 nGet]) => q_told W q1 202 202 nGet nGet hq1 hW)
  have htold : toldB 202 202 nGet nGet = true := by simp [toldB]
  rw [htold] at CT
  simp only [SesH.val, pA, p1] at CG2 CC
  simp only [nGet] at CT
  clear hok3 hfit3 hbk3 hq1 hq3 htold
  have cs := O.facts
  try simp only [factsP, cellsP, roomP, foots_cons, foots_nil, foots_append, foot_pt, ptb, ptb_mapA, foot_mapA, factsP_mapA, foot_bun, List.append_nil, List.nil_append, List.cons_append, List.nodup_cons, List.nodup_nil, List.mem_cons, List.not_mem_nil, List.mem_singleton, List.forall_mem_cons, not_or, not_false_eq_true, and_true, true_and, or_false, false_or, forall_eq_or_imp, forall_eq, implies_true, Nat.zero_add, Nat.reduceAdd, and_assoc, upd_listA, upd_mapA, upd_bun, upd_fam, upd_datasA, ptb_datasA, factsP_datasA, ptb_listA, factsP_listA, factsP_mapA, ptb_mapA, Nat.mul_one, factsP_bun, ptb_bun, ptb_fam, factsP_fam, factsP_errA, ptb_errA, upd_errA, itCells, Nat.zero_mul, List.length_cons, List.length_nil] at cs
  go_wp2_with fail
  refine (CG2.out _ (O.pre [true, true, true])).mono ?_
  rintro e w5 ⟨q4, rfl, hq4, o⟩
  obtain rfl : q4 = none := hq4.2 rfl
  replace O := O.callp [] o
  clear o CG2
  simp only [put, List.nil_append] at O
  have cs := O.facts
  try simp only [factsP, cellsP, roomP, foots_cons, foots_nil, foots_append, foot_pt, ptb, ptb_mapA, foot_mapA, factsP_mapA, foot_bun, List.append_nil, List.nil_append, List.cons_append, List.nodup_cons, List.nodup_nil, List.mem_cons, List.not_mem_nil, List.mem_singleton, List.forall_mem_cons, not_or, not_false_eq_true, and_true, true_and, or_false, false_or, forall_eq_or_imp, forall_eq, implies_true, Nat.zero_add, Nat.reduceAdd, and_assoc, upd_listA, upd_mapA, upd_bun, upd_fam, upd_datasA, ptb_datasA, factsP_datasA, ptb_listA, factsP_listA, factsP_mapA, ptb_mapA, Nat.mul_one, factsP_bun, ptb_bun, ptb_fam, factsP_fam, factsP_errA, ptb_errA, upd_errA, itCells, Nat.zero_mul, List.length_cons, List.length_nil] at cs
  go_wp2_with fail
  refine (CC.out _ (O.pre [false, true, true, true])).mono ?_
  rintro e w6 ⟨A, c, s, rfl, hs, o⟩
  obtain ⟨B, d, rfl⟩ := core_one hs
  have O2 := (O.call [false, true, true, true] o).sel [false, false, false, true, false, false, true]
  clear O o CC hs
  have O := O2
  clear O2
  simp only [sesL, Tk.sel, rst, List.cons_append, List.nil_append] at O
  rw [hS1, hS2, hS3, hS4, hS5]
  simp only [errV_none]
  obtain ⟨g, rfl, _⟩ := listA_get itLen (O.hold _ (List.mem_cons_self ..)) (k := 0) rfl
  have cs := O.facts
  try simp only [factsP, cellsP, roomP, foots_cons, foots_nil, foots_append, foot_pt, ptb, ptb_mapA, foot_mapA, factsP_mapA, foot_bun, List.append_nil, List.nil_append, List.cons_append, List.nodup_cons, List.nodup_nil, List.mem_cons, List.not_mem_nil, List.mem_singleton, List.forall_mem_cons, not_or, not_false_eq_true, and_true, true_and, or_false, false_or, forall_eq_or_imp, forall_eq, implies_true, Nat.zero_add, Nat.reduceAdd, and_assoc, upd_listA, upd_mapA, upd_bun, upd_fam, upd_datasA, ptb_datasA, factsP_datasA, ptb_listA, factsP_listA, factsP_mapA, ptb_mapA, Nat.mul_one, factsP_bun, ptb_bun, ptb_fam, factsP_fam, factsP_errA, ptb_errA, upd_errA, itCells, Nat.zero_mul, List.length_cons, List.length_nil] at cs
  go_upto_region 9 with fail
  first | apply Mem.atCall | apply Mem.atCode | apply Mem.atList
  case h => repeat' (first | (with_reducible exact O) | (with_reducible apply Mem.drew) | (with_reducible apply Mem.drewN) | (with_reducible apply Mem.ext) | (with_reducible apply Mem.alloc) | (with_reducible apply Mem.setCell) | (simp only [ptb, ptb_upd, foots_cons, List.mem_cons, World.size_alloc, size_ext, World.size_setCell, true_or, or_true, eq_self_iff_true, ptb_datasA, ptb_listA, ptb_mapA, ptb_bun, ptb_fam, ptb_errA]))
  case' k =>
    intro w7 O'
    (try clear O)
    have O := O'
    clear O'
    (first | simp only [sel, rst, List.cons_append, List.nil_append, World.size_alloc, size_ext, World.size_setCell, size_setMap, World.size_drew, size_drewN, upd, List.set_cons_zero, List.set_cons_succ, if_true, if_false, reduceIte, not_false_eq_true, ne_lt0, ne_lt1, ne_lt2, ne_lt3, ne_lt4, upd_listA, upd_mapA, upd_bun, upd_fam, upd_datasA, upd_errA, cs] at O | simp only [sel, rst, List.cons_append, List.nil_append, World.size_alloc, size_ext, World.size_setCell, size_setMap, World.size_drew, size_drewN, upd, List.set_cons_zero, List.set_cons_succ, if_true, if_false, reduceIte, not_false_eq_true, ne_lt0, ne_lt1, ne_lt2, ne_lt3, ne_lt4, upd_listA, upd_mapA, upd_bun, upd_fam, upd_datasA, upd_errA] at O | skip)
    (try clear cs)
    (try clear v1)
    (try clear v2)
    (try clear v3)
  generalize w6.heap.size = tb at O ⊢
  skip
  have cs := O.facts
  try simp only [factsP, cellsP, roomP, foots_cons, foots_nil, foots_append, foot_pt, ptb, ptb_mapA, foot_mapA, factsP_mapA, foot_bun, List.append_nil, List.nil_append, List.cons_append, List.nodup_cons, List.nodup_nil, List.mem_cons, List.not_mem_nil, List.mem_singleton, List.forall_mem_cons, not_or, not_false_eq_true, and_true, true_and, or_false, false_or, forall_eq_or_imp, forall_eq, implies_true, Nat.zero_add, Nat.reduceAdd, and_assoc, upd_listA, upd_mapA, upd_bun, upd_fam, upd_datasA, ptb_datasA, factsP_datasA, ptb_listA, factsP_listA, factsP_mapA, ptb_mapA, Nat.mul_one, factsP_bun, ptb_bun, ptb_fam, factsP_fam, factsP_errA, ptb_errA, upd_errA, itCells, Nat.zero_mul, List.length_cons, List.length_nil] at cs
  try have v1 := (listA_at itLen (O.hold _ (List.mem_cons_of_mem _ (List.mem_cons_self ..))) (k := 0) rfl)
  try simp only [cellsQ, roomP, and_assoc, and_true, true_and, Nat.add_zero, Nat.zero_add, Nat.reduceAdd, factsP, cellsP, roomP, foots_cons, foots_nil, foots_append, foot_pt, ptb, ptb_mapA, foot_mapA, factsP_mapA, foot_bun, List.append_nil, List.nil_append, List.cons_append, List.nodup_cons, List.nodup_nil, List.mem_cons, List.not_mem_nil, List.mem_singleton, List.forall_mem_cons, not_or, not_false_eq_true, and_true, true_and, or_false, false_or, forall_eq_or_imp, forall_eq, implies_true, Nat.zero_add, Nat.reduceAdd, and_assoc, upd_listA, upd_mapA, upd_bun, upd_fam, upd_datasA, ptb_datasA, factsP_datasA, ptb_listA, factsP_listA, factsP_mapA, ptb_mapA, Nat.mul_one, factsP_bun, ptb_bun, ptb_fam, factsP_fam, factsP_errA, ptb_errA, upd_errA, itCells, Nat.zero_mul, List.length_cons, List.length_nil] at v1
  go_wp2_with fail
  refine (CT.out _ (O.pre [false, false, true])).mono ?_
  rintro e w8 ⟨rfl, o⟩
  replace O := O.callp [] o
  clear o
  simp only [put, List.nil_append] at O
  have cs := O.facts
  try simp only [factsP, cellsP, roomP, foots_cons, foots_nil, foots_append, foot_pt, ptb, ptb_mapA, foot_mapA, factsP_mapA, foot_bun, List.append_nil, List.nil_append, List.cons_append, List.nodup_cons, List.nodup_nil, List.mem_cons, List.not_mem_nil, List.mem_singleton, List.forall_mem_cons, not_or, not_false_eq_true, and_true, true_and, or_false, false_or, forall_eq_or_imp, forall_eq, implies_true, Nat.zero_add, Nat.reduceAdd, and_assoc, upd_listA, upd_mapA, upd_bun, upd_fam, upd_datasA, ptb_datasA, factsP_datasA, ptb_listA, factsP_listA, factsP_mapA, ptb_mapA, Nat.mul_one, factsP_bun, ptb_bun, ptb_fam, factsP_fam, factsP_errA, ptb_errA, upd_errA, itCells, Nat.zero_mul, List.length_cons, List.length_nil] at cs
  try have v1 := (listA_at itLen (O.hold _ (List.mem_cons_of_mem _ (List.mem_cons_self ..))) (k := 0) rfl)
  try simp only [cellsQ, roomP, and_assoc, and_true, true_and, Nat.add_zero, Nat.zero_add, Nat.reduceAdd, factsP, cellsP, roomP, foots_cons, foots_nil, foots_append, foot_pt, ptb, ptb_mapA, foot_mapA, factsP_mapA, foot_bun, List.append_nil, List.nil_append, List.cons_append, List.nodup_cons, List.nodup_nil, List.mem_cons, List.not_mem_nil, List.mem_singleton, List.forall_mem_cons, not_or, not_false_eq_true, and_true, true_and, or_false, false_or, forall_eq_or_imp, forall_eq, implies_true, Nat.zero_add, Nat.reduceAdd, and_assoc, upd_listA, upd_mapA, upd_bun, upd_fam, upd_datasA, ptb_datasA, factsP_datasA, ptb_listA, factsP_listA, factsP_mapA, ptb_mapA, Nat.mul_one, factsP_bun, ptb_bun, ptb_fam, factsP_fam, factsP_errA, ptb_errA, upd_errA, itCells, Nat.zero_mul, List.length_cons, List.length_nil] at v1
  go_wp2_with fail
  go_ret
  exact ⟨rfl, O.fr0⟩
end Go.Proofs.Ytomcekjhehceoaa
