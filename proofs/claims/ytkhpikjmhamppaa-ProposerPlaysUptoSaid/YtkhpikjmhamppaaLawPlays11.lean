/- PROVED: a proposer and a learner answer any script as the document says (ProposerPlays): for arguments of bulk at most 1048576, the law returns true, and each argument reads behind the call as it read before. -/
import Derived.Test.YtkhpikjmhamppaaPlays11
set_option linter.unusedVariables false
set_option linter.unusedSimpArgs false
namespace Go.Proofs.Ytkhpikjmhamppaa
open Go.RowKit Go.WideShapes Go.ChangeShapes Go.ChangeAt Go.Tk

theorem begin11_keep (p : Prop11) (round : Int) (v : ByteArray) (hr : 0 ≤ round) (hp : 0 ≤ p.b.r) : ((begin11 p round v).2.2.getD p).node = p.node ∧ ((begin11 p round v).2.2.getD p).n = p.n ∧ 0 ≤ ((begin11 p round v).2.2.getD p).b.r := by
  unfold begin11
  by_cases h0 : round = 0
  · simp only [h0, if_true, Option.getD_none]; exact ⟨trivial, trivial, hp⟩
  · by_cases h1 : round ≤ p.b.r
    · simp only [h0, h1, if_true, if_false, Option.getD_none]; exact ⟨trivial, trivial, hp⟩
    · simp only [h0, h1, if_false, Option.getD_some]; exact ⟨trivial, trivial, hr⟩
theorem promise11_keep (p : Prop11) (f : Int) (b : Ballot) (a : Acc) : (promise11 p f b a).2.2.node = p.node ∧ (promise11 p f b a).2.2.n = p.n ∧ (promise11 p f b a).2.2.b = p.b := by
  unfold promise11
  split
  · exact ⟨rfl, rfl, rfl⟩
  · simp only []
    repeat' split
    all_goals exact ⟨rfl, rfl, rfl⟩
theorem accepted11_keep (l : Learn11) (f : Int) (b : Ballot) (v : ByteArray) : (accepted11 l f b v).2.2.n = l.n := by
  unfold accepted11
  split
  · rfl
  · split <;> rfl
set_option maxRecDepth 100000 in
set_option maxHeartbeats 16000000 in
theorem walkPlays11 (node n : Int) (sv : Value) (l : List Op11) (w : World) (hs : ArgList w 11 Op11.cells sv l) (hok : ∀ o ∈ l, o.ok) : Calls Try.prog 5 #[.int .i64 node, .int .i64 n, sv] w (fun e w' => e = .returned (.bool true) ∧ Below w.heap.size w w') := by
  obtain ⟨hl, A, cp, rfl, hcs⟩ := hs
  have HC := Lib.hid hcs
  have HO := Lib.hid hok
  clear hcs hok
  have O : Mem w [] w [] := Mem.begin
  go_enter Try.func5, Try.ntmps5
  have hc : (n < 1 ∨ (¬ n < 1 ∧ 9 < n)) ∨ ((1 ≤ n ∧ n ≤ 9) ∧ (node < 0 ∨ (¬ node < 0 ∧ 255 < node))) ∨ ((1 ≤ n ∧ n ≤ 9) ∧ 0 ≤ node ∧ node ≤ 255) := by omega
  rcases hc with h1 | ⟨⟨h1, h2⟩, h3⟩ | ⟨⟨h1, h2⟩, h3, h4⟩
  · have cs := O.facts
    simp only [factsP, cellsP, roomP, foots_cons, foots_nil, foots_append, foot_pt, ptb, ptb_mapA, foot_mapA, factsP_mapA, foot_bun, List.append_nil, List.nil_append, List.cons_append, List.nodup_cons, List.nodup_nil, List.mem_cons, List.not_mem_nil, List.mem_singleton, List.forall_mem_cons, not_or, not_false_eq_true, and_true, true_and, or_false, false_or, forall_eq_or_imp, forall_eq, implies_true, Nat.zero_add, Nat.reduceAdd, and_assoc, ptb_propA, factsP_propA, ptb_learnA, factsP_learnA, ptb_rpA, factsP_rpA, ptb_rlA, factsP_rlA, ptb_listA, factsP_listA, rpL, rlL] at cs
    go_wp2_with fail
    refine (prop_New_bad node n _ (by omega)).mono ?_
    rintro e w1 ⟨rfl, rfl⟩
    have cs := O.facts
    simp only [factsP, cellsP, roomP, foots_cons, foots_nil, foots_append, foot_pt, ptb, ptb_mapA, foot_mapA, factsP_mapA, foot_bun, List.append_nil, List.nil_append, List.cons_append, List.nodup_cons, List.nodup_nil, List.mem_cons, List.not_mem_nil, List.mem_singleton, List.forall_mem_cons, not_or, not_false_eq_true, and_true, true_and, or_false, false_or, forall_eq_or_imp, forall_eq, implies_true, Nat.zero_add, Nat.reduceAdd, and_assoc, ptb_propA, factsP_propA, ptb_learnA, factsP_learnA, ptb_rpA, factsP_rpA, ptb_rlA, factsP_rlA, ptb_listA, factsP_listA, rpL, rlL] at cs
    go_wp2_with fail
    refine (learn_New_bad n _ (by omega)).mono ?_
    rintro e w1 ⟨rfl, rfl⟩
    rcases h1 with h1 | ⟨h0, h1⟩
    all_goals
      try (have h0' : 0 ≤ n := by omega)
      try (have h0' : 1 ≤ n := by omega)
      have cs := O.facts
      simp only [factsP, cellsP, roomP, foots_cons, foots_nil, foots_append, foot_pt, ptb, ptb_mapA, foot_mapA, factsP_mapA, foot_bun, List.append_nil, List.nil_append, List.cons_append, List.nodup_cons, List.nodup_nil, List.mem_cons, List.not_mem_nil, List.mem_singleton, List.forall_mem_cons, not_or, not_false_eq_true, and_true, true_and, or_false, false_or, forall_eq_or_imp, forall_eq, implies_true, Nat.zero_add, Nat.reduceAdd, and_assoc, ptb_propA, factsP_propA, ptb_learnA, factsP_learnA, ptb_rpA, factsP_rpA, ptb_rlA, factsP_rlA, ptb_listA, factsP_listA, rpL, rlL] at cs
      go_wp2_with fail
      first | apply Mem.atCall | apply Mem.atCode | apply Mem.atList
      case h => repeat' (first | (with_reducible exact O) | (with_reducible apply Mem.drew) | (with_reducible apply Mem.drewN) | (with_reducible apply Mem.ext) | (with_reducible apply Mem.alloc) | (with_reducible apply Mem.setCell) | (simp only [ptb, ptb_upd, foots_cons, List.mem_cons, World.size_alloc, size_ext, World.size_setCell, true_or, or_true, eq_self_iff_true]))
      case' k =>
        intro w5 O'
        (try clear O)
        have O := O'
        clear O'
        (first | simp only [sel, rst, List.cons_append, List.nil_append, World.size_alloc, size_ext, World.size_setCell, size_setMap, World.size_drew, size_drewN, upd, List.set_cons_zero, List.set_cons_succ, if_true, if_false, reduceIte, not_false_eq_true, ne_lt0, ne_lt1, ne_lt2, ne_lt3, ne_lt4, cs] at O | simp only [sel, rst, List.cons_append, List.nil_append, World.size_alloc, size_ext, World.size_setCell, size_setMap, World.size_drew, size_drewN, upd, List.set_cons_zero, List.set_cons_succ, if_true, if_false, reduceIte, not_false_eq_true, ne_lt0, ne_lt1, ne_lt2, ne_lt3, ne_lt4] at O | skip)
        (try clear cs)
        (try clear v1)
        (try clear v2)
        (try clear v3)
      refine (alive11 _).mono ?_
      rintro e w6 ⟨rfl, o⟩
      replace O := O.callp [] o
      clear o
      simp only [put, List.cons_append, List.nil_append] at O
      have cs := O.facts
      simp only [factsP, cellsP, roomP, foots_cons, foots_nil, foots_append, foot_pt, ptb, ptb_mapA, foot_mapA, factsP_mapA, foot_bun, List.append_nil, List.nil_append, List.cons_append, List.nodup_cons, List.nodup_nil, List.mem_cons, List.not_mem_nil, List.mem_singleton, List.forall_mem_cons, not_or, not_false_eq_true, and_true, true_and, or_false, false_or, forall_eq_or_imp, forall_eq, implies_true, Nat.zero_add, Nat.reduceAdd, and_assoc, ptb_propA, factsP_propA, ptb_learnA, factsP_learnA, ptb_rpA, factsP_rpA, ptb_rlA, factsP_rlA, ptb_listA, factsP_listA, rpL, rlL] at cs
      go_wp2_with fail
      go_ret
      exact ⟨rfl, O.fr.below rfl⟩
  · have cs := O.facts
    simp only [factsP, cellsP, roomP, foots_cons, foots_nil, foots_append, foot_pt, ptb, ptb_mapA, foot_mapA, factsP_mapA, foot_bun, List.append_nil, List.nil_append, List.cons_append, List.nodup_cons, List.nodup_nil, List.mem_cons, List.not_mem_nil, List.mem_singleton, List.forall_mem_cons, not_or, not_false_eq_true, and_true, true_and, or_false, false_or, forall_eq_or_imp, forall_eq, implies_true, Nat.zero_add, Nat.reduceAdd, and_assoc, ptb_propA, factsP_propA, ptb_learnA, factsP_learnA, ptb_rpA, factsP_rpA, ptb_rlA, factsP_rlA, ptb_listA, factsP_listA, rpL, rlL] at cs
    go_wp2_with fail
    refine (prop_New_bad node n _ (by omega)).mono ?_
    rintro e w1 ⟨rfl, rfl⟩
    have cs := O.facts
    simp only [factsP, cellsP, roomP, foots_cons, foots_nil, foots_append, foot_pt, ptb, ptb_mapA, foot_mapA, factsP_mapA, foot_bun, List.append_nil, List.nil_append, List.cons_append, List.nodup_cons, List.nodup_nil, List.mem_cons, List.not_mem_nil, List.mem_singleton, List.forall_mem_cons, not_or, not_false_eq_true, and_true, true_and, or_false, false_or, forall_eq_or_imp, forall_eq, implies_true, Nat.zero_add, Nat.reduceAdd, and_assoc, ptb_propA, factsP_propA, ptb_learnA, factsP_learnA, ptb_rpA, factsP_rpA, ptb_rlA, factsP_rlA, ptb_listA, factsP_listA, rpL, rlL] at cs
    go_wp2_with fail
    first | apply Mem.atCall | apply Mem.atCode | apply Mem.atList
    case h => repeat' (first | (with_reducible exact O) | (with_reducible apply Mem.drew) | (with_reducible apply Mem.drewN) | (with_reducible apply Mem.ext) | (with_reducible apply Mem.alloc) | (with_reducible apply Mem.setCell) | (simp only [ptb, ptb_upd, foots_cons, List.mem_cons, World.size_alloc, size_ext, World.size_setCell, true_or, or_true, eq_self_iff_true]))
    case' k =>
      intro w3 O'
      (try clear O)
      have O := O'
      clear O'
      (first | simp only [sel, rst, List.cons_append, List.nil_append, World.size_alloc, size_ext, World.size_setCell, size_setMap, World.size_drew, size_drewN, upd, List.set_cons_zero, List.set_cons_succ, if_true, if_false, reduceIte, not_false_eq_true, ne_lt0, ne_lt1, ne_lt2, ne_lt3, ne_lt4, cs] at O | simp only [sel, rst, List.cons_append, List.nil_append, World.size_alloc, size_ext, World.size_setCell, size_setMap, World.size_drew, size_drewN, upd, List.set_cons_zero, List.set_cons_succ, if_true, if_false, reduceIte, not_false_eq_true, ne_lt0, ne_lt1, ne_lt2, ne_lt3, ne_lt4] at O | skip)
      (try clear cs)
      (try clear v1)
      (try clear v2)
      (try clear v3)
    refine (lA_New _ n ⟨h1, h2⟩).mono ?_
    rintro e w4 ⟨rfl, o⟩
    replace O := O.callp [] o
    clear o
    simp only [put, List.cons_append, List.nil_append] at O
    have hd1 : decide (1 ≤ n) = true := by simp [h1]
    have hd2 : decide (n ≤ 9) = true := by simp [h2]
    have HD := Lib.hid h3
    clear h3
    rcases HD.out with h3 | ⟨h3, h4⟩
    · have hd3 : decide (0 ≤ node) = false := by simp [h3]
      clear h3
      have cs := O.facts
      simp only [factsP, cellsP, roomP, foots_cons, foots_nil, foots_append, foot_pt, ptb, ptb_mapA, foot_mapA, factsP_mapA, foot_bun, List.append_nil, List.nil_append, List.cons_append, List.nodup_cons, List.nodup_nil, List.mem_cons, List.not_mem_nil, List.mem_singleton, List.forall_mem_cons, not_or, not_false_eq_true, and_true, true_and, or_false, false_or, forall_eq_or_imp, forall_eq, implies_true, Nat.zero_add, Nat.reduceAdd, and_assoc, ptb_propA, factsP_propA, ptb_learnA, factsP_learnA, ptb_rpA, factsP_rpA, ptb_rlA, factsP_rlA, ptb_listA, factsP_listA, rpL, rlL] at cs
      go_wp2_with fail
      first | apply Mem.atCall | apply Mem.atCode | apply Mem.atList
      case h => repeat' (first | (with_reducible exact O) | (with_reducible apply Mem.drew) | (with_reducible apply Mem.drewN) | (with_reducible apply Mem.ext) | (with_reducible apply Mem.alloc) | (with_reducible apply Mem.setCell) | (simp only [ptb, ptb_upd, foots_cons, List.mem_cons, World.size_alloc, size_ext, World.size_setCell, true_or, or_true, eq_self_iff_true]))
      case' k =>
        intro w5 O'
        (try clear O)
        have O := O'
        clear O'
        (first | simp only [sel, rst, List.cons_append, List.nil_append, World.size_alloc, size_ext, World.size_setCell, size_setMap, World.size_drew, size_drewN, upd, List.set_cons_zero, List.set_cons_succ, if_true, if_false, reduceIte, not_false_eq_true, ne_lt0, ne_lt1, ne_lt2, ne_lt3, ne_lt4, cs] at O | simp only [sel, rst, List.cons_append, List.nil_append, World.size_alloc, size_ext, World.size_setCell, size_setMap, World.size_drew, size_drewN, upd, List.set_cons_zero, List.set_cons_succ, if_true, if_false, reduceIte, not_false_eq_true, ne_lt0, ne_lt1, ne_lt2, ne_lt3, ne_lt4] at O | skip)
        (try clear cs)
        (try clear v1)
        (try clear v2)
        (try clear v3)
      refine (alive11 _).mono ?_
      rintro e w6 ⟨rfl, o⟩
      replace O := O.callp [] o
      clear o
      simp only [put, List.cons_append, List.nil_append] at O
      have cs := O.facts
      simp only [factsP, cellsP, roomP, foots_cons, foots_nil, foots_append, foot_pt, ptb, ptb_mapA, foot_mapA, factsP_mapA, foot_bun, List.append_nil, List.nil_append, List.cons_append, List.nodup_cons, List.nodup_nil, List.mem_cons, List.not_mem_nil, List.mem_singleton, List.forall_mem_cons, not_or, not_false_eq_true, and_true, true_and, or_false, false_or, forall_eq_or_imp, forall_eq, implies_true, Nat.zero_add, Nat.reduceAdd, and_assoc, ptb_propA, factsP_propA, ptb_learnA, factsP_learnA, ptb_rpA, factsP_rpA, ptb_rlA, factsP_rlA, ptb_listA, factsP_listA, rpL, rlL] at cs
      go_wp2_with fail
      go_ret
      exact ⟨rfl, O.fr.below rfl⟩
    · have hd3 : decide (0 ≤ node) = true := by simp; omega
      have hd4 : decide (node ≤ 255) = false := by simp; omega
      clear h3 h4
      have cs := O.facts
      simp only [factsP, cellsP, roomP, foots_cons, foots_nil, foots_append, foot_pt, ptb, ptb_mapA, foot_mapA, factsP_mapA, foot_bun, List.append_nil, List.nil_append, List.cons_append, List.nodup_cons, List.nodup_nil, List.mem_cons, List.not_mem_nil, List.mem_singleton, List.forall_mem_cons, not_or, not_false_eq_true, and_true, true_and, or_false, false_or, forall_eq_or_imp, forall_eq, implies_true, Nat.zero_add, Nat.reduceAdd, and_assoc, ptb_propA, factsP_propA, ptb_learnA, factsP_learnA, ptb_rpA, factsP_rpA, ptb_rlA, factsP_rlA, ptb_listA, factsP_listA, rpL, rlL] at cs
      go_wp2_with fail
      first | apply Mem.atCall | apply Mem.atCode | apply Mem.atList
      case h => repeat' (first | (with_reducible exact O) | (with_reducible apply Mem.drew) | (with_reducible apply Mem.drewN) | (with_reducible apply Mem.ext) | (with_reducible apply Mem.alloc) | (with_reducible apply Mem.setCell) | (simp only [ptb, ptb_upd, foots_cons, List.mem_cons, World.size_alloc, size_ext, World.size_setCell, true_or, or_true, eq_self_iff_true]))
      case' k =>
        intro w5 O'
        (try clear O)
        have O := O'
        clear O'
        (first | simp only [sel, rst, List.cons_append, List.nil_append, World.size_alloc, size_ext, World.size_setCell, size_setMap, World.size_drew, size_drewN, upd, List.set_cons_zero, List.set_cons_succ, if_true, if_false, reduceIte, not_false_eq_true, ne_lt0, ne_lt1, ne_lt2, ne_lt3, ne_lt4, cs] at O | simp only [sel, rst, List.cons_append, List.nil_append, World.size_alloc, size_ext, World.size_setCell, size_setMap, World.size_drew, size_drewN, upd, List.set_cons_zero, List.set_cons_succ, if_true, if_false, reduceIte, not_false_eq_true, ne_lt0, ne_lt1, ne_lt2, ne_lt3, ne_lt4] at O | skip)
        (try clear cs)
        (try clear v1)
        (try clear v2)
        (try clear v3)
      refine (alive11 _).mono ?_
      rintro e w6 ⟨rfl, o⟩
      replace O := O.callp [] o
      clear o
      simp only [put, List.cons_append, List.nil_append] at O
      have cs := O.facts
      simp only [factsP, cellsP, roomP, foots_cons, foots_nil, foots_append, foot_pt, ptb, ptb_mapA, foot_mapA, factsP_mapA, foot_bun, List.append_nil, List.nil_append, List.cons_append, List.nodup_cons, List.nodup_nil, List.mem_cons, List.not_mem_nil, List.mem_singleton, List.forall_mem_cons, not_or, not_false_eq_true, and_true, true_and, or_false, false_or, forall_eq_or_imp, forall_eq, implies_true, Nat.zero_add, Nat.reduceAdd, and_assoc, ptb_propA, factsP_propA, ptb_learnA, factsP_learnA, ptb_rpA, factsP_rpA, ptb_rlA, factsP_rlA, ptb_listA, factsP_listA, rpL, rlL] at cs
      go_wp2_with fail
      go_ret
      exact ⟨rfl, O.fr.below rfl⟩
  · obtain ⟨k0, rfl⟩ := Int.eq_ofNat_of_zero_le (show 0 ≤ n by omega)
    have cs := O.facts
    simp only [factsP, cellsP, roomP, foots_cons, foots_nil, foots_append, foot_pt, ptb, ptb_mapA, foot_mapA, factsP_mapA, foot_bun, List.append_nil, List.nil_append, List.cons_append, List.nodup_cons, List.nodup_nil, List.mem_cons, List.not_mem_nil, List.mem_singleton, List.forall_mem_cons, not_or, not_false_eq_true, and_true, true_and, or_false, false_or, forall_eq_or_imp, forall_eq, implies_true, Nat.zero_add, Nat.reduceAdd, and_assoc, ptb_propA, factsP_propA, ptb_learnA, factsP_learnA, ptb_rpA, factsP_rpA, ptb_rlA, factsP_rlA, ptb_listA, factsP_listA, rpL, rlL] at cs
    go_wp2_with fail
    first | apply Mem.atCall | apply Mem.atCode | apply Mem.atList
    case h => repeat' (first | (with_reducible exact O) | (with_reducible apply Mem.drew) | (with_reducible apply Mem.drewN) | (with_reducible apply Mem.ext) | (with_reducible apply Mem.alloc) | (with_reducible apply Mem.setCell) | (simp only [ptb, ptb_upd, foots_cons, List.mem_cons, World.size_alloc, size_ext, World.size_setCell, true_or, or_true, eq_self_iff_true]))
    case' k =>
      intro w1 O'
      (try clear O)
      have O := O'
      clear O'
      (first | simp only [sel, rst, List.cons_append, List.nil_append, World.size_alloc, size_ext, World.size_setCell, size_setMap, World.size_drew, size_drewN, upd, List.set_cons_zero, List.set_cons_succ, if_true, if_false, reduceIte, not_false_eq_true, ne_lt0, ne_lt1, ne_lt2, ne_lt3, ne_lt4, cs] at O | simp only [sel, rst, List.cons_append, List.nil_append, World.size_alloc, size_ext, World.size_setCell, size_setMap, World.size_drew, size_drewN, upd, List.set_cons_zero, List.set_cons_succ, if_true, if_false, reduceIte, not_false_eq_true, ne_lt0, ne_lt1, ne_lt2, ne_lt3, ne_lt4] at O | skip)
      (try clear cs)
      (try clear v1)
      (try clear v2)
      (try clear v3)
    refine (pA_New _ node k0 ⟨h3, h4, h1, h2⟩).mono ?_
    rintro e w2 ⟨rfl, o⟩
    replace O := O.callp [] o
    clear o
    simp only [put, List.cons_append, List.nil_append] at O
    have cs := O.facts
    simp only [factsP, cellsP, roomP, foots_cons, foots_nil, foots_append, foot_pt, ptb, ptb_mapA, foot_mapA, factsP_mapA, foot_bun, List.append_nil, List.nil_append, List.cons_append, List.nodup_cons, List.nodup_nil, List.mem_cons, List.not_mem_nil, List.mem_singleton, List.forall_mem_cons, not_or, not_false_eq_true, and_true, true_and, or_false, false_or, forall_eq_or_imp, forall_eq, implies_true, Nat.zero_add, Nat.reduceAdd, and_assoc, ptb_propA, factsP_propA, ptb_learnA, factsP_learnA, ptb_rpA, factsP_rpA, ptb_rlA, factsP_rlA, ptb_listA, factsP_listA, rpL, rlL] at cs
    go_wp2_with fail
    first | apply Mem.atCall | apply Mem.atCode | apply Mem.atList
    case h => repeat' (first | (with_reducible exact O) | (with_reducible apply Mem.drew) | (with_reducible apply Mem.drewN) | (with_reducible apply Mem.ext) | (with_reducible apply Mem.alloc) | (with_reducible apply Mem.setCell) | (simp only [ptb, ptb_upd, foots_cons, List.mem_cons, World.size_alloc, size_ext, World.size_setCell, true_or, or_true, eq_self_iff_true]))
    case' k =>
      intro w3 O'
      (try clear O)
      have O := O'
      clear O'
      (first | simp only [sel, rst, List.cons_append, List.nil_append, World.size_alloc, size_ext, World.size_setCell, size_setMap, World.size_drew, size_drewN, upd, List.set_cons_zero, List.set_cons_succ, if_true, if_false, reduceIte, not_false_eq_true, ne_lt0, ne_lt1, ne_lt2, ne_lt3, ne_lt4, cs] at O | simp only [sel, rst, List.cons_append, List.nil_append, World.size_alloc, size_ext, World.size_setCell, size_setMap, World.size_drew, size_drewN, upd, List.set_cons_zero, List.set_cons_succ, if_true, if_false, reduceIte, not_false_eq_true, ne_lt0, ne_lt1, ne_lt2, ne_lt3, ne_lt4] at O | skip)
      (try clear cs)
      (try clear v1)
      (try clear v2)
      (try clear v3)
    refine (lA_New _ k0 ⟨h1, h2⟩).mono ?_
    rintro e w4 ⟨rfl, o⟩
    replace O := O.callp [] o
    clear o
    simp only [put, List.cons_append, List.nil_append] at O
    have cs := O.facts
    simp only [factsP, cellsP, roomP, foots_cons, foots_nil, foots_append, foot_pt, ptb, ptb_mapA, foot_mapA, factsP_mapA, foot_bun, List.append_nil, List.nil_append, List.cons_append, List.nodup_cons, List.nodup_nil, List.mem_cons, List.not_mem_nil, List.mem_singleton, List.forall_mem_cons, not_or, not_false_eq_true, and_true, true_and, or_false, false_or, forall_eq_or_imp, forall_eq, implies_true, Nat.zero_add, Nat.reduceAdd, and_assoc, ptb_propA, factsP_propA, ptb_learnA, factsP_learnA, ptb_rpA, factsP_rpA, ptb_rlA, factsP_rlA, ptb_listA, factsP_listA, rpL, rlL] at cs
    go_wp2_with fail
    first | apply Mem.atCall | apply Mem.atCode | apply Mem.atList
    case h => repeat' (first | (with_reducible exact O) | (with_reducible apply Mem.drew) | (with_reducible apply Mem.drewN) | (with_reducible apply Mem.ext) | (with_reducible apply Mem.alloc) | (with_reducible apply Mem.setCell) | (simp only [ptb, ptb_upd, foots_cons, List.mem_cons, World.size_alloc, size_ext, World.size_setCell, true_or, or_true, eq_self_iff_true]))
    case' k =>
      intro w5 O'
      (try clear O)
      have O := O'
      clear O'
      (first | simp only [sel, rst, List.cons_append, List.nil_append, World.size_alloc, size_ext, World.size_setCell, size_setMap, World.size_drew, size_drewN, upd, List.set_cons_zero, List.set_cons_succ, if_true, if_false, reduceIte, not_false_eq_true, ne_lt0, ne_lt1, ne_lt2, ne_lt3, ne_lt4, cs] at O | simp only [sel, rst, List.cons_append, List.nil_append, World.size_alloc, size_ext, World.size_setCell, size_setMap, World.size_drew, size_drewN, upd, List.set_cons_zero, List.set_cons_succ, if_true, if_false, reduceIte, not_false_eq_true, ne_lt0, ne_lt1, ne_lt2, ne_lt3, ne_lt4] at O | skip)
      (try clear cs)
      (try clear v1)
      (try clear v2)
      (try clear v3)
    refine (alive11 _).mono ?_
    rintro e w6 ⟨rfl, o⟩
    replace O := O.callp [] o
    clear o
    simp only [put, List.cons_append, List.nil_append] at O
    have cs := O.facts
    simp only [factsP, cellsP, roomP, foots_cons, foots_nil, foots_append, foot_pt, ptb, ptb_mapA, foot_mapA, factsP_mapA, foot_bun, List.append_nil, List.nil_append, List.cons_append, List.nodup_cons, List.nodup_nil, List.mem_cons, List.not_mem_nil, List.mem_singleton, List.forall_mem_cons, not_or, not_false_eq_true, and_true, true_and, or_false, false_or, forall_eq_or_imp, forall_eq, implies_true, Nat.zero_add, Nat.reduceAdd, and_assoc, ptb_propA, factsP_propA, ptb_learnA, factsP_learnA, ptb_rpA, factsP_rpA, ptb_rlA, factsP_rlA, ptb_listA, factsP_listA, rpL, rlL] at cs
    go_wp2_with fail
    first | apply Mem.atCall | apply Mem.atCode | apply Mem.atList
    case h => repeat' (first | (with_reducible exact O) | (with_reducible apply Mem.drew) | (with_reducible apply Mem.drewN) | (with_reducible apply Mem.ext) | (with_reducible apply Mem.alloc) | (with_reducible apply Mem.setCell) | (simp only [ptb, ptb_upd, foots_cons, List.mem_cons, World.size_alloc, size_ext, World.size_setCell, true_or, or_true, eq_self_iff_true]))
    case' k =>
      intro w7 O'
      (try clear O)
      have O := O'
      clear O'
      (first | simp only [sel, rst, List.cons_append, List.nil_append, World.size_alloc, size_ext, World.size_setCell, size_setMap, World.size_drew, size_drewN, upd, List.set_cons_zero, List.set_cons_succ, if_true, if_false, reduceIte, not_false_eq_true, ne_lt0, ne_lt1, ne_lt2, ne_lt3, ne_lt4, cs] at O | simp only [sel, rst, List.cons_append, List.nil_append, World.size_alloc, size_ext, World.size_setCell, size_setMap, World.size_drew, size_drewN, upd, List.set_cons_zero, List.set_cons_succ, if_true, if_false, reduceIte, not_false_eq_true, ne_lt0, ne_lt1, ne_lt2, ne_lt3, ne_lt4] at O | skip)
      (try clear cs)
      (try clear v1)
      (try clear v2)
      (try clear v3)
    refine (rl_New k0 _ ⟨by omega, by omega⟩).mono ?_
    rintro e w8 ⟨lb, B, cB, rfl, o⟩
    replace O := O.callp [] o
    clear o
    simp only [put, List.cons_append, List.nil_append] at O
    have O1 : Mem w [] w8 [rlA lb B cB ⟨List.replicate k0 noSaid, false, .empty⟩, .pt w6.heap.size [.int .i64 node, .int .i64 k0, .int .u32 0, .int .u8 0, .string .empty, .slice none 0 0, .slice none 0 0] 56, learnA (w3.heap.size + 1) w3.heap.size (newL k0), propA w1.heap.size none (newP node k0)] := Mem.shut O
    have O2 := Mem.listNil (e := 3) (size := 1) (cs := intCells) (Mem.listNil (e := 36) (size := 4) (cs := accCells) O1)
    have O3 := O2.front [false, false, false, true]
    simp only [sel, rst, List.cons_append, List.nil_append] at O3
    have O4 : Mem w [] w8 [rpA w6.heap.size none 0 none 0 ⟨node, k0, noB, .empty, [], []⟩, rlA lb B cB ⟨List.replicate k0 noSaid, false, .empty⟩, learnA (w3.heap.size + 1) w3.heap.size (newL k0), propA w1.heap.size none (newP node k0)] := Mem.shut (l := rpL w6.heap.size none 0 none 0 ⟨node, k0, noB, .empty, [], []⟩) O3
    clear O O1 O2 O3
    have O := O4
    clear O4
    have cs := O.facts
    simp only [factsP, cellsP, roomP, foots_cons, foots_nil, foots_append, foot_pt, ptb, ptb_mapA, foot_mapA, factsP_mapA, foot_bun, List.append_nil, List.nil_append, List.cons_append, List.nodup_cons, List.nodup_nil, List.mem_cons, List.not_mem_nil, List.mem_singleton, List.forall_mem_cons, not_or, not_false_eq_true, and_true, true_and, or_false, false_or, forall_eq_or_imp, forall_eq, implies_true, Nat.zero_add, Nat.reduceAdd, and_assoc, ptb_propA, factsP_propA, ptb_learnA, factsP_learnA, ptb_rpA, factsP_rpA, ptb_rlA, factsP_rlA, ptb_listA, factsP_listA, rpL, rlL] at cs
    go_wp2_with fail
    generalize w6.heap.size = wpb at O ⊢
    generalize w3.heap.size = lm at O ⊢
    generalize w1.heap.size = ppb at O ⊢
    clear cs
    go_loopw [15] (fun s15 wr => ∃ (k : Nat) (p : Prop11) (q : RP) (s : Learn11) (r : RL) (mo : Option Nat) (A1 : Option Addr) (c1 : Nat) (A2 : Option Addr) (c2 : Nat), k ≤ l.length ∧ s15 = .int .i64 k ∧
      Mem w [] wr [rpA wpb A1 c1 A2 c2 q, rlA lb B cB r, learnA (lm + 1) lm s, propA ppb mo p] ∧ Hid (PR p q ∧ LR s r ∧ p.node = node ∧ p.n = k0 ∧ s.n = k0 ∧ (mo = none → p.b.r = 0) ∧ 0 ≤ p.b.r)) (fun s15 _ => l.length - (intOf s15).toNat)
    case atStart => exact ⟨0, _, _, _, _, _, _, _, _, _, by omega, rfl, O, Lib.hid ⟨PR.zero node k0, LR.zero k0, rfl, rfl, rfl, fun _ => rfl, by simp [newP, noB]⟩⟩
    case round =>
      clear O
      obtain ⟨k, p, q, s, r, mo, A1, c1, A2, c2, hk, rfl, O, HH⟩ := hrel
      by_cases hlt : k < l.length ∧ k < 300
      case neg =>
        have hcase : (k < l.length ∧ ¬ k < 300) ∨ ¬ k < l.length := by omega
        rcases hcase with ⟨h1, h2⟩ | h1
        all_goals
          have cs := O.facts
          simp only [factsP, cellsP, roomP, foots_cons, foots_nil, foots_append, foot_pt, ptb, ptb_mapA, foot_mapA, factsP_mapA, foot_bun, List.append_nil, List.nil_append, List.cons_append, List.nodup_cons, List.nodup_nil, List.mem_cons, List.not_mem_nil, List.mem_singleton, List.forall_mem_cons, not_or, not_false_eq_true, and_true, true_and, or_false, false_or, forall_eq_or_imp, forall_eq, implies_true, Nat.zero_add, Nat.reduceAdd, and_assoc, ptb_propA, factsP_propA, ptb_learnA, factsP_learnA, ptb_rpA, factsP_rpA, ptb_rlA, factsP_rlA, ptb_listA, factsP_listA, rpL, rlL] at cs
          go_wp2_with fail
          go_ret
          exact ⟨rfl, O.fr.below rfl⟩
      case pos =>
        obtain ⟨hlt, h300⟩ := hlt
        obtain ⟨b, off, rfl, hbb, hq⟩ := HC.out k _ (List.getElem?_eq_getElem hlt)
        have hoo := HO.out _ (List.getElem_mem hlt)
        generalize l[k] = o at *
        have V := Lib.hid (fun W (h : Fr [] w W) => arg_view hbb hq h)
        obtain ⟨ok, of, ord, ⟨obr, obn⟩, oow, ⟨oai, ⟨oar, oan⟩, oav⟩, ov⟩ := o
        have HOO := Lib.hid hoo
        clear hoo hq
        simp only [Op11.cells, cellsQ, Nat.add_zero, Nat.reduceAdd, and_true, Nat.zero_add] at V
        skip
        have cs := O.facts
        simp only [factsP, cellsP, roomP, foots_cons, foots_nil, foots_append, foot_pt, ptb, ptb_mapA, foot_mapA, factsP_mapA, foot_bun, List.append_nil, List.nil_append, List.cons_append, List.nodup_cons, List.nodup_nil, List.mem_cons, List.not_mem_nil, List.mem_singleton, List.forall_mem_cons, not_or, not_false_eq_true, and_true, true_and, or_false, false_or, forall_eq_or_imp, forall_eq, implies_true, Nat.zero_add, Nat.reduceAdd, and_assoc, ptb_propA, factsP_propA, ptb_learnA, factsP_learnA, ptb_rpA, factsP_rpA, ptb_rlA, factsP_rlA, ptb_listA, factsP_listA, rpL, rlL] at cs
        have v1 := V.out _ O.fr
        simp only [roomP, and_assoc] at v1
        go_upto_region 16 with fail
        first | apply Mem.atCall | apply Mem.atCode | apply Mem.atList
        case h => repeat' (first | (with_reducible exact O) | (with_reducible apply Mem.drew) | (with_reducible apply Mem.drewN) | (with_reducible apply Mem.ext) | (with_reducible apply Mem.alloc) | (with_reducible apply Mem.setCell) | (simp only [ptb, ptb_upd, foots_cons, List.mem_cons, World.size_alloc, size_ext, World.size_setCell, true_or, or_true, eq_self_iff_true]))
        case' k =>
          intro x1 O'
          (try clear O)
          have O := O'
          clear O'
          (first | simp only [sel, rst, List.cons_append, List.nil_append, World.size_alloc, size_ext, World.size_setCell, size_setMap, World.size_drew, size_drewN, upd, List.set_cons_zero, List.set_cons_succ, if_true, if_false, reduceIte, not_false_eq_true, ne_lt0, ne_lt1, ne_lt2, ne_lt3, ne_lt4, cs] at O | simp only [sel, rst, List.cons_append, List.nil_append, World.size_alloc, size_ext, World.size_setCell, size_setMap, World.size_drew, size_drewN, upd, List.set_cons_zero, List.set_cons_succ, if_true, if_false, reduceIte, not_false_eq_true, ne_lt0, ne_lt1, ne_lt2, ne_lt3, ne_lt4] at O | skip)
          (try clear cs)
          (try clear v1)
          (try clear v2)
          (try clear v3)
        generalize wr.heap.size = ob at O ⊢
        obtain ⟨⟨ebr, ebn⟩, heb⟩ : ∃ b : Ballot, b = if oow then q.b else ⟨obr, obn⟩ := ⟨_, rfl⟩
        have HEB := Lib.hid heb
        clear heb
        skip
        have cs := O.facts
        simp only [factsP, cellsP, roomP, foots_cons, foots_nil, foots_append, foot_pt, ptb, ptb_mapA, foot_mapA, factsP_mapA, foot_bun, List.append_nil, List.nil_append, List.cons_append, List.nodup_cons, List.nodup_nil, List.mem_cons, List.not_mem_nil, List.mem_singleton, List.forall_mem_cons, not_or, not_false_eq_true, and_true, true_and, or_false, false_or, forall_eq_or_imp, forall_eq, implies_true, Nat.zero_add, Nat.reduceAdd, and_assoc, ptb_propA, factsP_propA, ptb_learnA, factsP_learnA, ptb_rpA, factsP_rpA, ptb_rlA, factsP_rlA, ptb_listA, factsP_listA, rpL, rlL] at cs
        go_upto_if 127 with fail
        go_cut [127] (fun s127 wc => Mem w [] wc [.pt (ob + 1) [.int .u32 ebr, .int .u8 ebn] 31, .pt ob [.int .i64 ok, .int .i64 of, .int .u32 ord, .int .u32 obr, .int .u8 obn, .bool oow, .bool oai, .int .u32 oar, .int .u8 oan, .string oav, .string ov] 48, rpA wpb A1 c1 A2 c2 q, rlA lb B cB r, learnA (lm + 1) lm s, propA ppb mo p])
        case first =>
          have heb := HEB.out
          cases oow
          · simp only [Bool.false_eq_true, if_false, Ballot.mk.injEq] at heb
            obtain ⟨rfl, rfl⟩ := heb
            have cs := O.facts
            simp only [factsP, cellsP, roomP, foots_cons, foots_nil, foots_append, foot_pt, ptb, ptb_mapA, foot_mapA, factsP_mapA, foot_bun, List.append_nil, List.nil_append, List.cons_append, List.nodup_cons, List.nodup_nil, List.mem_cons, List.not_mem_nil, List.mem_singleton, List.forall_mem_cons, not_or, not_false_eq_true, and_true, true_and, or_false, false_or, forall_eq_or_imp, forall_eq, implies_true, Nat.zero_add, Nat.reduceAdd, and_assoc, ptb_propA, factsP_propA, ptb_learnA, factsP_learnA, ptb_rpA, factsP_rpA, ptb_rlA, factsP_rlA, ptb_listA, factsP_listA, rpL, rlL] at cs
            go_wp2_with fail
            go_meet
            exact O
          · simp only [if_true] at heb
            obtain ⟨h1, h2⟩ : ebr = q.b.r ∧ ebn = q.b.n := by rw [← heb]; exact ⟨rfl, rfl⟩
            subst h1 h2
            clear heb
            skip
            have cs := O.facts
            simp only [factsP, cellsP, roomP, foots_cons, foots_nil, foots_append, foot_pt, ptb, ptb_mapA, foot_mapA, factsP_mapA, foot_bun, List.append_nil, List.nil_append, List.cons_append, List.nodup_cons, List.nodup_nil, List.mem_cons, List.not_mem_nil, List.mem_singleton, List.forall_mem_cons, not_or, not_false_eq_true, and_true, true_and, or_false, false_or, forall_eq_or_imp, forall_eq, implies_true, Nat.zero_add, Nat.reduceAdd, and_assoc, ptb_propA, factsP_propA, ptb_learnA, factsP_learnA, ptb_rpA, factsP_rpA, ptb_rlA, factsP_rlA, ptb_listA, factsP_listA, rpL, rlL] at cs
            have v1 := (bun_facts (rpL wpb A1 c1 A2 c2 q) O (by simp [rpA]))
            try simp only [cellsQ, roomP, and_assoc, and_true, true_and, Nat.add_zero, Nat.zero_add, Nat.reduceAdd, factsP, cellsP, roomP, foots_cons, foots_nil, foots_append, foot_pt, ptb, ptb_mapA, foot_mapA, factsP_mapA, foot_bun, List.append_nil, List.nil_append, List.cons_append, List.nodup_cons, List.nodup_nil, List.mem_cons, List.not_mem_nil, List.mem_singleton, List.forall_mem_cons, not_or, not_false_eq_true, and_true, true_and, or_false, false_or, forall_eq_or_imp, forall_eq, implies_true, Nat.zero_add, Nat.reduceAdd, and_assoc, ptb_propA, factsP_propA, ptb_learnA, factsP_learnA, ptb_rpA, factsP_rpA, ptb_rlA, factsP_rlA, ptb_listA, factsP_listA, rpL, rlL] at v1
            go_wp2_with fail
            go_meet
            apply Mem.to [true, true, true, true, true, true]
            · repeat' (first | (with_reducible exact O) | (with_reducible apply Mem.drew) | (with_reducible apply Mem.drewN) | (with_reducible apply Mem.ext) | (with_reducible apply Mem.alloc) | (with_reducible apply Mem.setCell) | (simp only [ptb, ptb_upd, foots_cons, List.mem_cons, World.size_alloc, size_ext, World.size_setCell, true_or, or_true, eq_self_iff_true]))
            · first | with_reducible rfl | (simp only [sel, rst, List.cons_append, List.nil_append, World.size_alloc, size_ext, World.size_setCell, size_setMap, World.size_drew, size_drewN, upd, List.set_cons_zero, List.set_cons_succ, if_true, if_false, reduceIte, not_false_eq_true, ne_lt0, ne_lt1, ne_lt2, ne_lt3, ne_lt4, cs]; done) | (simp only [sel, rst, List.cons_append, List.nil_append, World.size_alloc, size_ext, World.size_setCell, size_setMap, World.size_drew, size_drewN, upd, List.set_cons_zero, List.set_cons_succ, if_true, if_false, reduceIte, not_false_eq_true, ne_lt0, ne_lt1, ne_lt2, ne_lt3, ne_lt4]; done) | (simp only [sel, rst, List.cons_append, List.nil_append, World.size_alloc, size_ext, World.size_setCell, size_setMap, World.size_drew, size_drewN, upd, List.set_cons_zero, List.set_cons_succ, if_true, if_false, reduceIte, not_false_eq_true, ne_lt0, ne_lt1, ne_lt2, ne_lt3, ne_lt4, cs]; rfl) | (simp only [sel, rst, List.cons_append, List.nil_append, World.size_alloc, size_ext, World.size_setCell, size_setMap, World.size_drew, size_drewN, upd, List.set_cons_zero, List.set_cons_succ, if_true, if_false, reduceIte, not_false_eq_true, ne_lt0, ne_lt1, ne_lt2, ne_lt3, ne_lt4]; rfl)
        case rest =>
          clear O
          have O := hcut
          clear hcut HEB V
          obtain ⟨hpr, hlr, hnode, hn, hsn, hmo, hbr⟩ := HH.out
          clear HH
          skip
          have cs := O.facts
          simp only [factsP, cellsP, roomP, foots_cons, foots_nil, foots_append, foot_pt, ptb, ptb_mapA, foot_mapA, factsP_mapA, foot_bun, List.append_nil, List.nil_append, List.cons_append, List.nodup_cons, List.nodup_nil, List.mem_cons, List.not_mem_nil, List.mem_singleton, List.forall_mem_cons, not_or, not_false_eq_true, and_true, true_and, or_false, false_or, forall_eq_or_imp, forall_eq, implies_true, Nat.zero_add, Nat.reduceAdd, and_assoc, ptb_propA, factsP_propA, ptb_learnA, factsP_learnA, ptb_rpA, factsP_rpA, ptb_rlA, factsP_rlA, ptb_listA, factsP_listA, rpL, rlL] at cs
          go_upto_block 2 with fail
          go_cut [134] (fun s134 wc => ∃ (p : Prop11) (q : RP) (s : Learn11) (r : RL) (mo : Option Nat) (A1 : Option Addr) (c1 : Nat) (A2 : Option Addr) (c2 : Nat),
            Mem w [] wc [.pt (ob + 1) [.int .u32 ebr, .int .u8 ebn] 31, .pt ob [.int .i64 ok, .int .i64 of, .int .u32 ord, .int .u32 obr, .int .u8 obn, .bool oow, .bool oai, .int .u32 oar, .int .u8 oan, .string oav, .string ov] 48, rpA wpb A1 c1 A2 c2 q, rlA lb B cB r, learnA (lm + 1) lm s, propA ppb mo p] ∧ Hid (PR p q ∧ LR s r ∧ p.node = node ∧ p.n = k0 ∧ s.n = k0 ∧ (mo = none → p.b.r = 0) ∧ 0 ≤ p.b.r))
          case first =>
            have hn9 : p.n ≤ 9 := by omega
            have HN9 := Lib.hid hn9
            have HNODE := Lib.hid hnode
            have HN := Lib.hid hn
            have HSN := Lib.hid hsn
            have HPR := Lib.hid hpr
            have HLR := Lib.hid hlr
            have HMO := Lib.hid hmo
            have HBR := Lib.hid hbr
            clear hn9 hnode hn hsn hpr hlr hmo hbr
            by_cases k1 : ok = 1
            · subst k1
              have C1 := Lib.hid (fun W h => pA_Begin_any W ppb mo p ord ov h (by rw [HNODE.out]; exact ⟨h3, h4⟩) HOO.out.2.1.1 HMO.out)
              have C2 := Lib.hid (fun W h => rpA_Begin W wpb A1 c1 A2 c2 p q HPR.out ord ov h (by rw [HNODE.out]; exact ⟨h3, h4⟩) HOO.out.2.1.1)
              have PB := HPR.out.begin_any ord ov
              have KP := begin11_keep p ord ov HOO.out.2.1.1 HBR.out
              generalize begin11 p ord ov = bg at C1 C2 PB KP
              obtain ⟨⟨gr, gn⟩, ge, gp⟩ := bg
              simp only [Ballot.val] at C1 C2 PB KP
              generalize gp.getD p = p2 at C1 C2 PB KP
              generalize rbegin q ord ov = q2 at C2 PB
              have KP2 := Lib.hid KP
              have PB2 := Lib.hid PB
              clear KP PB
              have cs := O.facts
              simp only [factsP, cellsP, roomP, foots_cons, foots_nil, foots_append, foot_pt, ptb, ptb_mapA, foot_mapA, factsP_mapA, foot_bun, List.append_nil, List.nil_append, List.cons_append, List.nodup_cons, List.nodup_nil, List.mem_cons, List.not_mem_nil, List.mem_singleton, List.forall_mem_cons, not_or, not_false_eq_true, and_true, true_and, or_false, false_or, forall_eq_or_imp, forall_eq, implies_true, Nat.zero_add, Nat.reduceAdd, and_assoc, ptb_propA, factsP_propA, ptb_learnA, factsP_learnA, ptb_rpA, factsP_rpA, ptb_rlA, factsP_rlA, ptb_listA, factsP_listA, rpL, rlL] at cs
              go_wp2_with fail
              first | apply Mem.atCall | apply Mem.atCode | apply Mem.atList
              case h => repeat' (first | (with_reducible exact O) | (with_reducible apply Mem.drew) | (with_reducible apply Mem.drewN) | (with_reducible apply Mem.ext) | (with_reducible apply Mem.alloc) | (with_reducible apply Mem.setCell) | (simp only [ptb, ptb_upd, foots_cons, List.mem_cons, World.size_alloc, size_ext, World.size_setCell, true_or, or_true, eq_self_iff_true]))
              case' k =>
                intro x3 O'
                (try clear O)
                have O := O'
                clear O'
                (first | simp only [sel, rst, List.cons_append, List.nil_append, World.size_alloc, size_ext, World.size_setCell, size_setMap, World.size_drew, size_drewN, upd, List.set_cons_zero, List.set_cons_succ, if_true, if_false, reduceIte, not_false_eq_true, ne_lt0, ne_lt1, ne_lt2, ne_lt3, ne_lt4, cs] at O | simp only [sel, rst, List.cons_append, List.nil_append, World.size_alloc, size_ext, World.size_setCell, size_setMap, World.size_drew, size_drewN, upd, List.set_cons_zero, List.set_cons_succ, if_true, if_false, reduceIte, not_false_eq_true, ne_lt0, ne_lt1, ne_lt2, ne_lt3, ne_lt4] at O | skip)
                (try clear cs)
                (try clear v1)
                (try clear v2)
                (try clear v3)
              refine (C1.out x3 (O.pre [false, false, false, false, false, true])).mono ?_
              rintro e x4 ⟨rfl, mo2, o, hmo2⟩
              replace O := O.callp [false, false, false, false, false, true] o
              clear o
              simp only [put, List.cons_append, List.nil_append] at O
              have HMO2 := Lib.hid hmo2
              clear hmo2
              have cs := O.facts
              simp only [factsP, cellsP, roomP, foots_cons, foots_nil, foots_append, foot_pt, ptb, ptb_mapA, foot_mapA, factsP_mapA, foot_bun, List.append_nil, List.nil_append, List.cons_append, List.nodup_cons, List.nodup_nil, List.mem_cons, List.not_mem_nil, List.mem_singleton, List.forall_mem_cons, not_or, not_false_eq_true, and_true, true_and, or_false, false_or, forall_eq_or_imp, forall_eq, implies_true, Nat.zero_add, Nat.reduceAdd, and_assoc, ptb_propA, factsP_propA, ptb_learnA, factsP_learnA, ptb_rpA, factsP_rpA, ptb_rlA, factsP_rlA, ptb_listA, factsP_listA, rpL, rlL] at cs
              go_wp2_with fail
              first | apply Mem.atCall | apply Mem.atCode | apply Mem.atList
              case h => repeat' (first | (with_reducible exact O) | (with_reducible apply Mem.drew) | (with_reducible apply Mem.drewN) | (with_reducible apply Mem.ext) | (with_reducible apply Mem.alloc) | (with_reducible apply Mem.setCell) | (simp only [ptb, ptb_upd, foots_cons, List.mem_cons, World.size_alloc, size_ext, World.size_setCell, true_or, or_true, eq_self_iff_true]))
              case' k =>
                intro x5 O'
                (try clear O)
                have O := O'
                clear O'
                (first | simp only [sel, rst, List.cons_append, List.nil_append, World.size_alloc, size_ext, World.size_setCell, size_setMap, World.size_drew, size_drewN, upd, List.set_cons_zero, List.set_cons_succ, if_true, if_false, reduceIte, not_false_eq_true, ne_lt0, ne_lt1, ne_lt2, ne_lt3, ne_lt4, cs] at O | simp only [sel, rst, List.cons_append, List.nil_append, World.size_alloc, size_ext, World.size_setCell, size_setMap, World.size_drew, size_drewN, upd, List.set_cons_zero, List.set_cons_succ, if_true, if_false, reduceIte, not_false_eq_true, ne_lt0, ne_lt1, ne_lt2, ne_lt3, ne_lt4] at O | skip)
                (try clear cs)
                (try clear v1)
                (try clear v2)
                (try clear v3)
              refine (C2.out x5 (O.pre [false, false, false, true])).mono ?_
              rintro e x6 ⟨rfl, A1', c1', A2', c2', o⟩
              replace O := O.callp [false, false, false, true] o
              clear o
              simp only [put, List.cons_append, List.nil_append] at O
              have cs := O.facts
              simp only [factsP, cellsP, roomP, foots_cons, foots_nil, foots_append, foot_pt, ptb, ptb_mapA, foot_mapA, factsP_mapA, foot_bun, List.append_nil, List.nil_append, List.cons_append, List.nodup_cons, List.nodup_nil, List.mem_cons, List.not_mem_nil, List.mem_singleton, List.forall_mem_cons, not_or, not_false_eq_true, and_true, true_and, or_false, false_or, forall_eq_or_imp, forall_eq, implies_true, Nat.zero_add, Nat.reduceAdd, and_assoc, ptb_propA, factsP_propA, ptb_learnA, factsP_learnA, ptb_rpA, factsP_rpA, ptb_rlA, factsP_rlA, ptb_listA, factsP_listA, rpL, rlL] at cs
              go_wp2_with fail
              go_meet
              refine ⟨p2, q2, s, r, mo2, A1', c1', A2', c2', ?_, Lib.hid ⟨PB2.out, HLR.out, by rw [KP2.out.1]; exact HNODE.out, by rw [KP2.out.2.1]; exact HN.out, HSN.out, HMO2.out, KP2.out.2.2⟩⟩
              apply Mem.to [false, false, true, true, true, true, true, true]
              · repeat' (first | (with_reducible exact O) | (with_reducible apply Mem.drew) | (with_reducible apply Mem.drewN) | (with_reducible apply Mem.ext) | (with_reducible apply Mem.alloc) | (with_reducible apply Mem.setCell) | (simp only [ptb, ptb_upd, foots_cons, List.mem_cons, World.size_alloc, size_ext, World.size_setCell, true_or, or_true, eq_self_iff_true]))
              · first | with_reducible rfl | (simp only [sel, rst, List.cons_append, List.nil_append, World.size_alloc, size_ext, World.size_setCell, size_setMap, World.size_drew, size_drewN, upd, List.set_cons_zero, List.set_cons_succ, if_true, if_false, reduceIte, not_false_eq_true, ne_lt0, ne_lt1, ne_lt2, ne_lt3, ne_lt4, cs]; done) | (simp only [sel, rst, List.cons_append, List.nil_append, World.size_alloc, size_ext, World.size_setCell, size_setMap, World.size_drew, size_drewN, upd, List.set_cons_zero, List.set_cons_succ, if_true, if_false, reduceIte, not_false_eq_true, ne_lt0, ne_lt1, ne_lt2, ne_lt3, ne_lt4]; done) | (simp only [sel, rst, List.cons_append, List.nil_append, World.size_alloc, size_ext, World.size_setCell, size_setMap, World.size_drew, size_drewN, upd, List.set_cons_zero, List.set_cons_succ, if_true, if_false, reduceIte, not_false_eq_true, ne_lt0, ne_lt1, ne_lt2, ne_lt3, ne_lt4, cs]; rfl) | (simp only [sel, rst, List.cons_append, List.nil_append, World.size_alloc, size_ext, World.size_setCell, size_setMap, World.size_drew, size_drewN, upd, List.set_cons_zero, List.set_cons_succ, if_true, if_false, reduceIte, not_false_eq_true, ne_lt0, ne_lt1, ne_lt2, ne_lt3, ne_lt4]; rfl)
            · by_cases k2 : ok = 2
              · subst k2
                have C1 := Lib.hid (fun W h => pA_Promise W ppb mo p of ⟨ebr, ebn⟩ ⟨oai, ⟨oar, oan⟩, oav⟩ h HMO.out HN9.out)
                have C2 := Lib.hid (fun W h => rpA_Promise W wpb A1 c1 A2 c2 p q HPR.out HN9.out of ⟨ebr, ebn⟩ ⟨oai, ⟨oar, oan⟩, oav⟩ h)
                have PB := (HPR.out.promise of ⟨ebr, ebn⟩ ⟨oai, ⟨oar, oan⟩, oav⟩).2.2
                have KP := promise11_keep p of ⟨ebr, ebn⟩ ⟨oai, ⟨oar, oan⟩, oav⟩
                generalize promise11 p of ⟨ebr, ebn⟩ ⟨oai, ⟨oar, oan⟩, oav⟩ = bg at C1 C2 PB KP
                obtain ⟨gv, gi, p2⟩ := bg
                simp only [Ballot.val, Acc.val] at C1 C2 PB KP
                generalize (rpromise q of ⟨ebr, ebn⟩ ⟨oai, ⟨oar, oan⟩, oav⟩).2.2 = q2 at C2 PB
                have KP2 := Lib.hid KP
                have PB2 := Lib.hid PB
                clear KP PB
                have cs := O.facts
                simp only [factsP, cellsP, roomP, foots_cons, foots_nil, foots_append, foot_pt, ptb, ptb_mapA, foot_mapA, factsP_mapA, foot_bun, List.append_nil, List.nil_append, List.cons_append, List.nodup_cons, List.nodup_nil, List.mem_cons, List.not_mem_nil, List.mem_singleton, List.forall_mem_cons, not_or, not_false_eq_true, and_true, true_and, or_false, false_or, forall_eq_or_imp, forall_eq, implies_true, Nat.zero_add, Nat.reduceAdd, and_assoc, ptb_propA, factsP_propA, ptb_learnA, factsP_learnA, ptb_rpA, factsP_rpA, ptb_rlA, factsP_rlA, ptb_listA, factsP_listA, rpL, rlL] at cs
                go_wp2_with fail
                first | apply Mem.atCall | apply Mem.atCode | apply Mem.atList
                case h => repeat' (first | (with_reducible exact O) | (with_reducible apply Mem.drew) | (with_reducible apply Mem.drewN) | (with_reducible apply Mem.ext) | (with_reducible apply Mem.alloc) | (with_reducible apply Mem.setCell) | (simp only [ptb, ptb_upd, foots_cons, List.mem_cons, World.size_alloc, size_ext, World.size_setCell, true_or, or_true, eq_self_iff_true]))
                case' k =>
                  intro x3 O'
                  (try clear O)
                  have O := O'
                  clear O'
                  (first | simp only [sel, rst, List.cons_append, List.nil_append, World.size_alloc, size_ext, World.size_setCell, size_setMap, World.size_drew, size_drewN, upd, List.set_cons_zero, List.set_cons_succ, if_true, if_false, reduceIte, not_false_eq_true, ne_lt0, ne_lt1, ne_lt2, ne_lt3, ne_lt4, cs] at O | simp only [sel, rst, List.cons_append, List.nil_append, World.size_alloc, size_ext, World.size_setCell, size_setMap, World.size_drew, size_drewN, upd, List.set_cons_zero, List.set_cons_succ, if_true, if_false, reduceIte, not_false_eq_true, ne_lt0, ne_lt1, ne_lt2, ne_lt3, ne_lt4] at O | skip)
                  (try clear cs)
                  (try clear v1)
                  (try clear v2)
                  (try clear v3)
                refine (C1.out x3 (O.pre [false, false, false, false, false, true])).mono ?_
                rintro e x4 ⟨rfl, o⟩
                replace O := O.callp [false, false, false, false, false, true] o
                clear o
                simp only [put, List.cons_append, List.nil_append] at O
                have cs := O.facts
                simp only [factsP, cellsP, roomP, foots_cons, foots_nil, foots_append, foot_pt, ptb, ptb_mapA, foot_mapA, factsP_mapA, foot_bun, List.append_nil, List.nil_append, List.cons_append, List.nodup_cons, List.nodup_nil, List.mem_cons, List.not_mem_nil, List.mem_singleton, List.forall_mem_cons, not_or, not_false_eq_true, and_true, true_and, or_false, false_or, forall_eq_or_imp, forall_eq, implies_true, Nat.zero_add, Nat.reduceAdd, and_assoc, ptb_propA, factsP_propA, ptb_learnA, factsP_learnA, ptb_rpA, factsP_rpA, ptb_rlA, factsP_rlA, ptb_listA, factsP_listA, rpL, rlL] at cs
                go_wp2_with fail
                first | apply Mem.atCall | apply Mem.atCode | apply Mem.atList
                case h => repeat' (first | (with_reducible exact O) | (with_reducible apply Mem.drew) | (with_reducible apply Mem.drewN) | (with_reducible apply Mem.ext) | (with_reducible apply Mem.alloc) | (with_reducible apply Mem.setCell) | (simp only [ptb, ptb_upd, foots_cons, List.mem_cons, World.size_alloc, size_ext, World.size_setCell, true_or, or_true, eq_self_iff_true]))
                case' k =>
                  intro x5 O'
                  (try clear O)
                  have O := O'
                  clear O'
                  (first | simp only [sel, rst, List.cons_append, List.nil_append, World.size_alloc, size_ext, World.size_setCell, size_setMap, World.size_drew, size_drewN, upd, List.set_cons_zero, List.set_cons_succ, if_true, if_false, reduceIte, not_false_eq_true, ne_lt0, ne_lt1, ne_lt2, ne_lt3, ne_lt4, cs] at O | simp only [sel, rst, List.cons_append, List.nil_append, World.size_alloc, size_ext, World.size_setCell, size_setMap, World.size_drew, size_drewN, upd, List.set_cons_zero, List.set_cons_succ, if_true, if_false, reduceIte, not_false_eq_true, ne_lt0, ne_lt1, ne_lt2, ne_lt3, ne_lt4] at O | skip)
                  (try clear cs)
                  (try clear v1)
                  (try clear v2)
                  (try clear v3)
                refine (C2.out x5 (O.pre [false, false, true])).mono ?_
                rintro e x6 ⟨rfl, A1', c1', A2', c2', o⟩
                replace O := O.callp [false, false, true] o
                clear o
                simp only [put, List.cons_append, List.nil_append] at O
                have cs := O.facts
                simp only [factsP, cellsP, roomP, foots_cons, foots_nil, foots_append, foot_pt, ptb, ptb_mapA, foot_mapA, factsP_mapA, foot_bun, List.append_nil, List.nil_append, List.cons_append, List.nodup_cons, List.nodup_nil, List.mem_cons, List.not_mem_nil, List.mem_singleton, List.forall_mem_cons, not_or, not_false_eq_true, and_true, true_and, or_false, false_or, forall_eq_or_imp, forall_eq, implies_true, Nat.zero_add, Nat.reduceAdd, and_assoc, ptb_propA, factsP_propA, ptb_learnA, factsP_learnA, ptb_rpA, factsP_rpA, ptb_rlA, factsP_rlA, ptb_listA, factsP_listA, rpL, rlL] at cs
                go_wp2_with fail
                go_meet
                refine ⟨p2, q2, s, r, mo, A1', c1', A2', c2', ?_, Lib.hid ⟨PB2.out, HLR.out, by rw [KP2.out.1]; exact HNODE.out, by rw [KP2.out.2.1]; exact HN.out, HSN.out, by rw [KP2.out.2.2]; exact HMO.out, by rw [KP2.out.2.2]; exact HBR.out⟩⟩
                apply Mem.to [true, true, true, true, true, true]
                · repeat' (first | (with_reducible exact O) | (with_reducible apply Mem.drew) | (with_reducible apply Mem.drewN) | (with_reducible apply Mem.ext) | (with_reducible apply Mem.alloc) | (with_reducible apply Mem.setCell) | (simp only [ptb, ptb_upd, foots_cons, List.mem_cons, World.size_alloc, size_ext, World.size_setCell, true_or, or_true, eq_self_iff_true]))
                · first | with_reducible rfl | (simp only [sel, rst, List.cons_append, List.nil_append, World.size_alloc, size_ext, World.size_setCell, size_setMap, World.size_drew, size_drewN, upd, List.set_cons_zero, List.set_cons_succ, if_true, if_false, reduceIte, not_false_eq_true, ne_lt0, ne_lt1, ne_lt2, ne_lt3, ne_lt4, cs]; done) | (simp only [sel, rst, List.cons_append, List.nil_append, World.size_alloc, size_ext, World.size_setCell, size_setMap, World.size_drew, size_drewN, upd, List.set_cons_zero, List.set_cons_succ, if_true, if_false, reduceIte, not_false_eq_true, ne_lt0, ne_lt1, ne_lt2, ne_lt3, ne_lt4]; done) | (simp only [sel, rst, List.cons_append, List.nil_append, World.size_alloc, size_ext, World.size_setCell, size_setMap, World.size_drew, size_drewN, upd, List.set_cons_zero, List.set_cons_succ, if_true, if_false, reduceIte, not_false_eq_true, ne_lt0, ne_lt1, ne_lt2, ne_lt3, ne_lt4, cs]; rfl) | (simp only [sel, rst, List.cons_append, List.nil_append, World.size_alloc, size_ext, World.size_setCell, size_setMap, World.size_drew, size_drewN, upd, List.set_cons_zero, List.set_cons_succ, if_true, if_false, reduceIte, not_false_eq_true, ne_lt0, ne_lt1, ne_lt2, ne_lt3, ne_lt4]; rfl)
              · by_cases k3 : ok = 3
                · subst k3
                  have C1 := Lib.hid (fun W h => lA_Accepted W (lm + 1) lm s of ⟨ebr, ebn⟩ ov h (by rw [HSN.out]; exact h2) (HLR.out.small (by rw [HSN.out]; exact h2)))
                  have C2 := Lib.hid (fun W h => rlA_Accepted W lb B cB s r HLR.out (by rw [HSN.out]; exact h2) of ⟨ebr, ebn⟩ ov h)
                  have PB := (HLR.out.any of ⟨ebr, ebn⟩ ov).2.2
                  have KP := accepted11_keep s of ⟨ebr, ebn⟩ ov
                  generalize accepted11 s of ⟨ebr, ebn⟩ ov = bg at C1 C2 PB KP
                  obtain ⟨gv, gi, s2⟩ := bg
                  simp only [Ballot.val] at C1 C2 PB KP
                  generalize (raccI r of ⟨ebr, ebn⟩ ov).2.2 = r2 at C2 PB
                  have KP2 := Lib.hid KP
                  have PB2 := Lib.hid PB
                  clear KP PB
                  have cs := O.facts
                  simp only [factsP, cellsP, roomP, foots_cons, foots_nil, foots_append, foot_pt, ptb, ptb_mapA, foot_mapA, factsP_mapA, foot_bun, List.append_nil, List.nil_append, List.cons_append, List.nodup_cons, List.nodup_nil, List.mem_cons, List.not_mem_nil, List.mem_singleton, List.forall_mem_cons, not_or, not_false_eq_true, and_true, true_and, or_false, false_or, forall_eq_or_imp, forall_eq, implies_true, Nat.zero_add, Nat.reduceAdd, and_assoc, ptb_propA, factsP_propA, ptb_learnA, factsP_learnA, ptb_rpA, factsP_rpA, ptb_rlA, factsP_rlA, ptb_listA, factsP_listA, rpL, rlL] at cs
                  go_wp2_with fail
                  first | apply Mem.atCall | apply Mem.atCode | apply Mem.atList
                  case h => repeat' (first | (with_reducible exact O) | (with_reducible apply Mem.drew) | (with_reducible apply Mem.drewN) | (with_reducible apply Mem.ext) | (with_reducible apply Mem.alloc) | (with_reducible apply Mem.setCell) | (simp only [ptb, ptb_upd, foots_cons, List.mem_cons, World.size_alloc, size_ext, World.size_setCell, true_or, or_true, eq_self_iff_true]))
                  case' k =>
                    intro x3 O'
                    (try clear O)
                    have O := O'
                    clear O'
                    (first | simp only [sel, rst, List.cons_append, List.nil_append, World.size_alloc, size_ext, World.size_setCell, size_setMap, World.size_drew, size_drewN, upd, List.set_cons_zero, List.set_cons_succ, if_true, if_false, reduceIte, not_false_eq_true, ne_lt0, ne_lt1, ne_lt2, ne_lt3, ne_lt4, cs] at O | simp only [sel, rst, List.cons_append, List.nil_append, World.size_alloc, size_ext, World.size_setCell, size_setMap, World.size_drew, size_drewN, upd, List.set_cons_zero, List.set_cons_succ, if_true, if_false, reduceIte, not_false_eq_true, ne_lt0, ne_lt1, ne_lt2, ne_lt3, ne_lt4] at O | skip)
                    (try clear cs)
                    (try clear v1)
                    (try clear v2)
                    (try clear v3)
                  refine (C1.out x3 (O.pre [false, false, false, false, true])).mono ?_
                  rintro e x4 ⟨rfl, o⟩
                  replace O := O.callp [false, false, false, false, true] o
                  clear o
                  simp only [put, List.cons_append, List.nil_append] at O
                  have cs := O.facts
                  simp only [factsP, cellsP, roomP, foots_cons, foots_nil, foots_append, foot_pt, ptb, ptb_mapA, foot_mapA, factsP_mapA, foot_bun, List.append_nil, List.nil_append, List.cons_append, List.nodup_cons, List.nodup_nil, List.mem_cons, List.not_mem_nil, List.mem_singleton, List.forall_mem_cons, not_or, not_false_eq_true, and_true, true_and, or_false, false_or, forall_eq_or_imp, forall_eq, implies_true, Nat.zero_add, Nat.reduceAdd, and_assoc, ptb_propA, factsP_propA, ptb_learnA, factsP_learnA, ptb_rpA, factsP_rpA, ptb_rlA, factsP_rlA, ptb_listA, factsP_listA, rpL, rlL] at cs
                  go_wp2_with fail
                  first | apply Mem.atCall | apply Mem.atCode | apply Mem.atList
                  case h => repeat' (first | (with_reducible exact O) | (with_reducible apply Mem.drew) | (with_reducible apply Mem.drewN) | (with_reducible apply Mem.ext) | (with_reducible apply Mem.alloc) | (with_reducible apply Mem.setCell) | (simp only [ptb, ptb_upd, foots_cons, List.mem_cons, World.size_alloc, size_ext, World.size_setCell, true_or, or_true, eq_self_iff_true]))
                  case' k =>
                    intro x5 O'
                    (try clear O)
                    have O := O'
                    clear O'
                    (first | simp only [sel, rst, List.cons_append, List.nil_append, World.size_alloc, size_ext, World.size_setCell, size_setMap, World.size_drew, size_drewN, upd, List.set_cons_zero, List.set_cons_succ, if_true, if_false, reduceIte, not_false_eq_true, ne_lt0, ne_lt1, ne_lt2, ne_lt3, ne_lt4, cs] at O | simp only [sel, rst, List.cons_append, List.nil_append, World.size_alloc, size_ext, World.size_setCell, size_setMap, World.size_drew, size_drewN, upd, List.set_cons_zero, List.set_cons_succ, if_true, if_false, reduceIte, not_false_eq_true, ne_lt0, ne_lt1, ne_lt2, ne_lt3, ne_lt4] at O | skip)
                    (try clear cs)
                    (try clear v1)
                    (try clear v2)
                    (try clear v3)
                  refine (C2.out x5 (O.pre [false, false, false, true])).mono ?_
                  rintro e x6 ⟨rfl, o⟩
                  replace O := O.callp [false, false, false, true] o
                  clear o
                  simp only [put, List.cons_append, List.nil_append] at O
                  have cs := O.facts
                  simp only [factsP, cellsP, roomP, foots_cons, foots_nil, foots_append, foot_pt, ptb, ptb_mapA, foot_mapA, factsP_mapA, foot_bun, List.append_nil, List.nil_append, List.cons_append, List.nodup_cons, List.nodup_nil, List.mem_cons, List.not_mem_nil, List.mem_singleton, List.forall_mem_cons, not_or, not_false_eq_true, and_true, true_and, or_false, false_or, forall_eq_or_imp, forall_eq, implies_true, Nat.zero_add, Nat.reduceAdd, and_assoc, ptb_propA, factsP_propA, ptb_learnA, factsP_learnA, ptb_rpA, factsP_rpA, ptb_rlA, factsP_rlA, ptb_listA, factsP_listA, rpL, rlL] at cs
                  go_wp2_with fail
                  go_meet
                  refine ⟨p, q, s2, r2, mo, A1, c1, A2, c2, ?_, Lib.hid ⟨HPR.out, PB2.out, HNODE.out, HN.out, KP2.out.trans HSN.out, HMO.out, HBR.out⟩⟩
                  apply Mem.to [true, true, true, true, true, true]
                  · repeat' (first | (with_reducible exact O) | (with_reducible apply Mem.drew) | (with_reducible apply Mem.drewN) | (with_reducible apply Mem.ext) | (with_reducible apply Mem.alloc) | (with_reducible apply Mem.setCell) | (simp only [ptb, ptb_upd, foots_cons, List.mem_cons, World.size_alloc, size_ext, World.size_setCell, true_or, or_true, eq_self_iff_true]))
                  · first | with_reducible rfl | (simp only [sel, rst, List.cons_append, List.nil_append, World.size_alloc, size_ext, World.size_setCell, size_setMap, World.size_drew, size_drewN, upd, List.set_cons_zero, List.set_cons_succ, if_true, if_false, reduceIte, not_false_eq_true, ne_lt0, ne_lt1, ne_lt2, ne_lt3, ne_lt4, cs]; done) | (simp only [sel, rst, List.cons_append, List.nil_append, World.size_alloc, size_ext, World.size_setCell, size_setMap, World.size_drew, size_drewN, upd, List.set_cons_zero, List.set_cons_succ, if_true, if_false, reduceIte, not_false_eq_true, ne_lt0, ne_lt1, ne_lt2, ne_lt3, ne_lt4]; done) | (simp only [sel, rst, List.cons_append, List.nil_append, World.size_alloc, size_ext, World.size_setCell, size_setMap, World.size_drew, size_drewN, upd, List.set_cons_zero, List.set_cons_succ, if_true, if_false, reduceIte, not_false_eq_true, ne_lt0, ne_lt1, ne_lt2, ne_lt3, ne_lt4, cs]; rfl) | (simp only [sel, rst, List.cons_append, List.nil_append, World.size_alloc, size_ext, World.size_setCell, size_setMap, World.size_drew, size_drewN, upd, List.set_cons_zero, List.set_cons_succ, if_true, if_false, reduceIte, not_false_eq_true, ne_lt0, ne_lt1, ne_lt2, ne_lt3, ne_lt4]; rfl)
                · have e1 : (ok == 1) = false := by simp [k1]
                  have e2 : (ok == 2) = false := by simp [k2]
                  have e3 : (ok == 3) = false := by simp [k3]
                  clear k1 k2 k3
                  have cs := O.facts
                  simp only [factsP, cellsP, roomP, foots_cons, foots_nil, foots_append, foot_pt, ptb, ptb_mapA, foot_mapA, factsP_mapA, foot_bun, List.append_nil, List.nil_append, List.cons_append, List.nodup_cons, List.nodup_nil, List.mem_cons, List.not_mem_nil, List.mem_singleton, List.forall_mem_cons, not_or, not_false_eq_true, and_true, true_and, or_false, false_or, forall_eq_or_imp, forall_eq, implies_true, Nat.zero_add, Nat.reduceAdd, and_assoc, ptb_propA, factsP_propA, ptb_learnA, factsP_learnA, ptb_rpA, factsP_rpA, ptb_rlA, factsP_rlA, ptb_listA, factsP_listA, rpL, rlL] at cs
                  go_wp2_with fail
                  go_meet
                  exact ⟨p, q, s, r, mo, A1, c1, A2, c2, O, Lib.hid ⟨HPR.out, HLR.out, HNODE.out, HN.out, HSN.out, HMO.out, HBR.out⟩⟩
          case rest =>
            clear O hpr hlr hnode hn hsn hmo hbr
            obtain ⟨p, q, s, r, mo, A1, c1, A2, c2, O, HH⟩ := hcut
            have C1 := Lib.hid (fun W h => pA_Ballot W ppb mo p h)
            have C2 := Lib.hid (fun W h => lA_Chosen W (lm + 1) lm s h)
            rw [← HH.out.1.b] at C1
            rw [HH.out.2.1.is, HH.out.2.1.chosen] at C2
            simp only [Ballot.val] at C1
            have cs := O.facts
            simp only [factsP, cellsP, roomP, foots_cons, foots_nil, foots_append, foot_pt, ptb, ptb_mapA, foot_mapA, factsP_mapA, foot_bun, List.append_nil, List.nil_append, List.cons_append, List.nodup_cons, List.nodup_nil, List.mem_cons, List.not_mem_nil, List.mem_singleton, List.forall_mem_cons, not_or, not_false_eq_true, and_true, true_and, or_false, false_or, forall_eq_or_imp, forall_eq, implies_true, Nat.zero_add, Nat.reduceAdd, and_assoc, ptb_propA, factsP_propA, ptb_learnA, factsP_learnA, ptb_rpA, factsP_rpA, ptb_rlA, factsP_rlA, ptb_listA, factsP_listA, rpL, rlL] at cs
            go_wp2_with fail
            first | apply Mem.atCall | apply Mem.atCode | apply Mem.atList
            case h => repeat' (first | (with_reducible exact O) | (with_reducible apply Mem.drew) | (with_reducible apply Mem.drewN) | (with_reducible apply Mem.ext) | (with_reducible apply Mem.alloc) | (with_reducible apply Mem.setCell) | (simp only [ptb, ptb_upd, foots_cons, List.mem_cons, World.size_alloc, size_ext, World.size_setCell, true_or, or_true, eq_self_iff_true]))
            case' k =>
              intro y1 O'
              (try clear O)
              have O := O'
              clear O'
              (first | simp only [sel, rst, List.cons_append, List.nil_append, World.size_alloc, size_ext, World.size_setCell, size_setMap, World.size_drew, size_drewN, upd, List.set_cons_zero, List.set_cons_succ, if_true, if_false, reduceIte, not_false_eq_true, ne_lt0, ne_lt1, ne_lt2, ne_lt3, ne_lt4, cs] at O | simp only [sel, rst, List.cons_append, List.nil_append, World.size_alloc, size_ext, World.size_setCell, size_setMap, World.size_drew, size_drewN, upd, List.set_cons_zero, List.set_cons_succ, if_true, if_false, reduceIte, not_false_eq_true, ne_lt0, ne_lt1, ne_lt2, ne_lt3, ne_lt4] at O | skip)
              (try clear cs)
              (try clear v1)
              (try clear v2)
              (try clear v3)
            refine (C1.out y1 (O.pre [false, false, false, false, false, true])).mono ?_
            rintro e y2 ⟨rfl, o⟩
            replace O := O.callp [] o
            clear o
            simp only [put, List.cons_append, List.nil_append] at O
            have cs := O.facts
            simp only [factsP, cellsP, roomP, foots_cons, foots_nil, foots_append, foot_pt, ptb, ptb_mapA, foot_mapA, factsP_mapA, foot_bun, List.append_nil, List.nil_append, List.cons_append, List.nodup_cons, List.nodup_nil, List.mem_cons, List.not_mem_nil, List.mem_singleton, List.forall_mem_cons, not_or, not_false_eq_true, and_true, true_and, or_false, false_or, forall_eq_or_imp, forall_eq, implies_true, Nat.zero_add, Nat.reduceAdd, and_assoc, ptb_propA, factsP_propA, ptb_learnA, factsP_learnA, ptb_rpA, factsP_rpA, ptb_rlA, factsP_rlA, ptb_listA, factsP_listA, rpL, rlL] at cs
            go_wp2_with fail
            first | apply Mem.atCall | apply Mem.atCode | apply Mem.atList
            case h => repeat' (first | (with_reducible exact O) | (with_reducible apply Mem.drew) | (with_reducible apply Mem.drewN) | (with_reducible apply Mem.ext) | (with_reducible apply Mem.alloc) | (with_reducible apply Mem.setCell) | (simp only [ptb, ptb_upd, foots_cons, List.mem_cons, World.size_alloc, size_ext, World.size_setCell, true_or, or_true, eq_self_iff_true]))
            case' k =>
              intro y3 O'
              (try clear O)
              have O := O'
              clear O'
              (first | simp only [sel, rst, List.cons_append, List.nil_append, World.size_alloc, size_ext, World.size_setCell, size_setMap, World.size_drew, size_drewN, upd, List.set_cons_zero, List.set_cons_succ, if_true, if_false, reduceIte, not_false_eq_true, ne_lt0, ne_lt1, ne_lt2, ne_lt3, ne_lt4, cs] at O | simp only [sel, rst, List.cons_append, List.nil_append, World.size_alloc, size_ext, World.size_setCell, size_setMap, World.size_drew, size_drewN, upd, List.set_cons_zero, List.set_cons_succ, if_true, if_false, reduceIte, not_false_eq_true, ne_lt0, ne_lt1, ne_lt2, ne_lt3, ne_lt4] at O | skip)
              (try clear cs)
              (try clear v1)
              (try clear v2)
              (try clear v3)
            refine (C2.out y3 (O.pre [false, false, false, false, false, true, false])).mono ?_
            rintro e y4 ⟨rfl, o⟩
            replace O := O.callp [] o
            clear o
            simp only [put, List.cons_append, List.nil_append] at O
            have cs := O.facts
            simp only [factsP, cellsP, roomP, foots_cons, foots_nil, foots_append, foot_pt, ptb, ptb_mapA, foot_mapA, factsP_mapA, foot_bun, List.append_nil, List.nil_append, List.cons_append, List.nodup_cons, List.nodup_nil, List.mem_cons, List.not_mem_nil, List.mem_singleton, List.forall_mem_cons, not_or, not_false_eq_true, and_true, true_and, or_false, false_or, forall_eq_or_imp, forall_eq, implies_true, Nat.zero_add, Nat.reduceAdd, and_assoc, ptb_propA, factsP_propA, ptb_learnA, factsP_learnA, ptb_rpA, factsP_rpA, ptb_rlA, factsP_rlA, ptb_listA, factsP_listA, rpL, rlL] at cs
            go_wp2_with fail
            skip
            apply region_quiet_mem (by kernel_rfl) (by kernel_rfl)
            case O => repeat' (first | (with_reducible exact O) | (with_reducible apply Mem.drew) | (with_reducible apply Mem.drewN) | (with_reducible apply Mem.ext) | (with_reducible apply Mem.alloc) | (with_reducible apply Mem.setCell) | (simp only [ptb, ptb_upd, foots_cons, List.mem_cons, World.size_alloc, size_ext, World.size_setCell, true_or, or_true, eq_self_iff_true]))
            case' h =>
              intro y5 O'
              (try clear O)
              have O := O'
              clear O'
              (first | simp only [sel, rst, List.cons_append, List.nil_append, World.size_alloc, size_ext, World.size_setCell, size_setMap, World.size_drew, size_drewN, upd, List.set_cons_zero, List.set_cons_succ, if_true, if_false, reduceIte, not_false_eq_true, ne_lt0, ne_lt1, ne_lt2, ne_lt3, ne_lt4, cs] at O | simp only [sel, rst, List.cons_append, List.nil_append, World.size_alloc, size_ext, World.size_setCell, size_setMap, World.size_drew, size_drewN, upd, List.set_cons_zero, List.set_cons_succ, if_true, if_false, reduceIte, not_false_eq_true, ne_lt0, ne_lt1, ne_lt2, ne_lt3, ne_lt4] at O | skip)
              (try clear cs)
              (try clear v1)
              (try clear v2)
              (try clear v3)
            have cs := O.facts
            simp only [factsP, cellsP, roomP, foots_cons, foots_nil, foots_append, foot_pt, ptb, ptb_mapA, foot_mapA, factsP_mapA, foot_bun, List.append_nil, List.nil_append, List.cons_append, List.nodup_cons, List.nodup_nil, List.mem_cons, List.not_mem_nil, List.mem_singleton, List.forall_mem_cons, not_or, not_false_eq_true, and_true, true_and, or_false, false_or, forall_eq_or_imp, forall_eq, implies_true, Nat.zero_add, Nat.reduceAdd, and_assoc, ptb_propA, factsP_propA, ptb_learnA, factsP_learnA, ptb_rpA, factsP_rpA, ptb_rlA, factsP_rlA, ptb_listA, factsP_listA, rpL, rlL] at cs
            have v1 := (bun_facts (rpL wpb A1 c1 A2 c2 q) O (by simp [rpA]))
            try simp only [cellsQ, roomP, and_assoc, and_true, true_and, Nat.add_zero, Nat.zero_add, Nat.reduceAdd, factsP, cellsP, roomP, foots_cons, foots_nil, foots_append, foot_pt, ptb, ptb_mapA, foot_mapA, factsP_mapA, foot_bun, List.append_nil, List.nil_append, List.cons_append, List.nodup_cons, List.nodup_nil, List.mem_cons, List.not_mem_nil, List.mem_singleton, List.forall_mem_cons, not_or, not_false_eq_true, and_true, true_and, or_false, false_or, forall_eq_or_imp, forall_eq, implies_true, Nat.zero_add, Nat.reduceAdd, and_assoc, ptb_propA, factsP_propA, ptb_learnA, factsP_learnA, ptb_rpA, factsP_rpA, ptb_rlA, factsP_rlA, ptb_listA, factsP_listA, rpL, rlL] at v1
            have v2 := (bun_facts (rlL lb B cB r) O (by simp [rlA]))
            try simp only [cellsQ, roomP, and_assoc, and_true, true_and, Nat.add_zero, Nat.zero_add, Nat.reduceAdd, factsP, cellsP, roomP, foots_cons, foots_nil, foots_append, foot_pt, ptb, ptb_mapA, foot_mapA, factsP_mapA, foot_bun, List.append_nil, List.nil_append, List.cons_append, List.nodup_cons, List.nodup_nil, List.mem_cons, List.not_mem_nil, List.mem_singleton, List.forall_mem_cons, not_or, not_false_eq_true, and_true, true_and, or_false, false_or, forall_eq_or_imp, forall_eq, implies_true, Nat.zero_add, Nat.reduceAdd, and_assoc, ptb_propA, factsP_propA, ptb_learnA, factsP_learnA, ptb_rpA, factsP_rpA, ptb_rlA, factsP_rlA, ptb_listA, factsP_listA, rpL, rlL] at v2
            repeat (go_big_quiet_step ((fail)))
            refine wpQuiet_nil ?_
            intro y6 hq
            (try clear cs)
            (try clear v1)
            (try clear v2)
            (try clear v3)
            replace O := O.qext hq
            clear hq
            skip
            have cs := O.facts
            simp only [factsP, cellsP, roomP, foots_cons, foots_nil, foots_append, foot_pt, ptb, ptb_mapA, foot_mapA, factsP_mapA, foot_bun, List.append_nil, List.nil_append, List.cons_append, List.nodup_cons, List.nodup_nil, List.mem_cons, List.not_mem_nil, List.mem_singleton, List.forall_mem_cons, not_or, not_false_eq_true, and_true, true_and, or_false, false_or, forall_eq_or_imp, forall_eq, implies_true, Nat.zero_add, Nat.reduceAdd, and_assoc, ptb_propA, factsP_propA, ptb_learnA, factsP_learnA, ptb_rpA, factsP_rpA, ptb_rlA, factsP_rlA, ptb_listA, factsP_listA, rpL, rlL] at cs
            go_wp2_with fail
            go_roundw
            case rel =>
              refine ⟨k + 1, p, q, s, r, mo, A1, c1, A2, c2, by omega, by go_num, ?_, HH⟩
              apply Mem.to [false, false, false, true, true, true, true]
              · repeat' (first | (with_reducible exact O) | (with_reducible apply Mem.drew) | (with_reducible apply Mem.drewN) | (with_reducible apply Mem.ext) | (with_reducible apply Mem.alloc) | (with_reducible apply Mem.setCell) | (simp only [ptb, ptb_upd, foots_cons, List.mem_cons, World.size_alloc, size_ext, World.size_setCell, true_or, or_true, eq_self_iff_true]))
              · first | with_reducible rfl | (simp only [sel, rst, List.cons_append, List.nil_append, World.size_alloc, size_ext, World.size_setCell, size_setMap, World.size_drew, size_drewN, upd, List.set_cons_zero, List.set_cons_succ, if_true, if_false, reduceIte, not_false_eq_true, ne_lt0, ne_lt1, ne_lt2, ne_lt3, ne_lt4, cs]; done) | (simp only [sel, rst, List.cons_append, List.nil_append, World.size_alloc, size_ext, World.size_setCell, size_setMap, World.size_drew, size_drewN, upd, List.set_cons_zero, List.set_cons_succ, if_true, if_false, reduceIte, not_false_eq_true, ne_lt0, ne_lt1, ne_lt2, ne_lt3, ne_lt4]; done) | (simp only [sel, rst, List.cons_append, List.nil_append, World.size_alloc, size_ext, World.size_setCell, size_setMap, World.size_drew, size_drewN, upd, List.set_cons_zero, List.set_cons_succ, if_true, if_false, reduceIte, not_false_eq_true, ne_lt0, ne_lt1, ne_lt2, ne_lt3, ne_lt4, cs]; rfl) | (simp only [sel, rst, List.cons_append, List.nil_append, World.size_alloc, size_ext, World.size_setCell, size_setMap, World.size_drew, size_drewN, upd, List.set_cons_zero, List.set_cons_succ, if_true, if_false, reduceIte, not_false_eq_true, ne_lt0, ne_lt1, ne_lt2, ne_lt3, ne_lt4]; rfl)
            case measure => simp [intOf]; omega
set_option maxRecDepth 100000 in
theorem readProposerPlays_3 : Try.prog.readableRec 3 = true ∧ 3 < Try.prog.types.size := ⟨by kernel_rfl, of_decide_eq_true (by kernel_rfl)⟩
set_option maxRecDepth 100000 in
theorem readProposerPlays_43 : Try.prog.readableRec 43 = true ∧ 43 < Try.prog.types.size := ⟨by kernel_rfl, of_decide_eq_true (by kernel_rfl)⟩
set_option maxRecDepth 100000 in
theorem ownProposerPlays : ownKnob Try.prog.godebug = none := by kernel_rfl
set_option maxRecDepth 100000 in
theorem laidOutProposerPlays : laidOutB Try.prog = true := by kernel_rfl
set_option maxRecDepth 100000 in
theorem contractProposerPlays (H : Type) (enc : TypeId × Value → H) (W : World) (base : Nat) (args : Array Value) (ds gs : List (DataW H)) (before : List MemPlace)
    (hval : ∀ (j : Nat) t v, Try.f5.params[j]? = some t → args[j]? = some v → Value.okWide Try.prog W .any base t v)
    (hW : DataW.Whole enc Try.prog Try.f5.params.toList Rows.proposerPlaysSpec.vars false W args.toList ds gs before) (hk : Rows.uptoSmall H (ds ++ gs) = true) :
    Calls Try.prog 5 args W fun e W' => ∃ v, e = .returned v ∧ Rows.proposerPlaysSpec.post enc Try.prog Try.f5 false true false false W args v W' := by
  have hfin : ∀ W', Below W.heap.size W W' → Rows.proposerPlaysSpec.post enc Try.prog Try.f5 false true false false W args (.bool true) W' := fun W' hb =>
    post_of_walk (n := 3) (boolT := 4) rfl (fun ds h => by match ds, h with | [a0, a1, a2], _ => exact ⟨rfl, rfl, rfl⟩) rfl rfl Try.underlying4 laidOutProposerPlays (fun t ht => by rw [Try.params5] at ht; simp at ht; rcases ht with rfl | rfl; exact readProposerPlays_3; exact readProposerPlays_43) hW hb
  have hN : Rows.uptoBulkAll (ds ++ gs) ≤ 1048576 := of_decide_eq_true hk
  obtain ⟨p, q, hA, hV, rfl, hfz, hnd⟩ := hW
  rw [Try.params5] at hA hval
  obtain ⟨v0, vs0, d0, ds0, p0, q0, hargs, rfl, rfl, h0, r0⟩ := trodAll_cons hA
  obtain ⟨v1, vs1, d1, ds1, p1, q1, rfl, rfl, rfl, h1, r1⟩ := trodAll_cons r0
  obtain ⟨v2, vs2, d2, ds2, p2, q2, rfl, rfl, rfl, h2, r2⟩ := trodAll_cons r1
  obtain ⟨rfl, rfl, rfl⟩ := trodAll_nil r2
  obtain rfl : args = #[v0, v1, v2] := by cases args; simp_all
  simp only [List.cons_append, List.nil_append, Rows.uptoBulkAll] at hN
  obtain ⟨x0, rfl⟩ := okWide_int Try.underlying3 (hval 0 3 v0 rfl rfl)
  obtain ⟨f0, g0⟩ := h0
  have ty0 := typed_of_trod (N := 1048576) f0 _ _ _ g0 (by simp only; omega)
  obtain ⟨x1, rfl⟩ := okWide_int Try.underlying3 (hval 1 3 v1 rfl rfl)
  obtain ⟨f1, g1⟩ := h1
  have ty1 := typed_of_trod (N := 1048576) f1 _ _ _ g1 (by simp only; omega)
  obtain ⟨A2, len2, cap2, rfl⟩ := okWide_slice Try.underlying43 (hval 2 43 v2 rfl rfl)
  obtain ⟨f2, g2⟩ := h2
  have ty2 := typed_of_trod (N := 1048576) f2 _ _ _ g2 (by simp only; omega)
  obtain ⟨c, hc1, hc2⟩ := typed_int Try.underlying3 ty0
  obtain rfl : x0 = c := by simpa [Value.cells] using hc1
  obtain ⟨d, hd1, hd2⟩ := typed_int Try.underlying3 ty1
  obtain rfl : x1 = d := by simpa [Value.cells] using hd1
  obtain ⟨l, hl, hok⟩ := read_list (cs := Op11.cells) (ok := Op11.ok) Try.underlying43 cells_op (by omega) (fun f' l' h => read_op11 h) (Nat.le_refl _) ty2
  exact (walkPlays11 x0 x1 _ l W hl hok).mono fun e W' ⟨he, hy⟩ => ⟨_, he, hfin W' hy⟩

set_option maxRecDepth 100000 in
theorem liftedProposerPlays (os : Os) (started : os.Started) (H : Type) (enc : TypeId × Value → H) (F : Stop.Interp) :
    ReturnsInHanded {} Try.checked os 5 .any ((Rows.OpenSpec.upto Rows.proposerPlaysSpec).pre6 enc Try.prog Try.f5 Rows.proposerPlaysUptoRow.domain false) (((Rows.OpenSpec.upto Rows.proposerPlaysSpec).at F).post enc Try.prog Try.f5 false true false false) := by
  refine returnsInHanded_of_cond (C := Try.checked) (s := Rows.OpenSpec.upto Rows.proposerPlaysSpec) (k := Rows.uptoSmall) rfl ownProposerPlays started (by kernel_rfl) Try.func5
    (OpenSpec.witness (enc := enc) (C := Try.checked) (s := Rows.OpenSpec.upto Rows.proposerPlaysSpec) (k := Rows.uptoSmall) rfl false
      ⟨#[], #[.int .i64 0, .int .i64 0, .slice none 0 0], []⟩ 8 (by kernel_rfl) (by kernel_rfl) (by kernel_rfl)
      (x := ([.lit (.int .i64 0), .lit (.int .i64 0), .nil], [], [])) (by kernel_rfl) rfl (by kernel_rfl)) ?_
  intro W base args ds gs before hval hW _ hk _
  exact contractProposerPlays H enc W base args ds gs before hval hW hk

theorem ProposerPlays_holds : Rows.ProposerPlaysUptoSaid :=
  OpenClaim.holds_of_cond 5 Try.f5 rfl rfl rfl rfl rfl rfl rfl ⟨rfl, rfl, rfl, rfl, rfl⟩ rfl rfl rfl rfl rfl (by kernel_rfl) Try.func5 (by kernel_rfl)
    (of_decide_eq_true (by kernel_rfl)) (by unfold Func.isWrapper; first | (rw [if_pos (by decide +kernel)]; kernel_rfl) | (rw [if_neg (by decide +kernel)]; exact ⟨rfl, rfl⟩))
    (fun os started H enc _ F => liftedProposerPlays os started H enc F)
end Go.Proofs.Ytkhpikjmhamppaa
