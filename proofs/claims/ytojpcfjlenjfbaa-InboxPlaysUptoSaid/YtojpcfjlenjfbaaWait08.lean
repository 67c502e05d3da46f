/- WALKS: how long one waits. -/
import Derived.Test.YtojpcfjlenjfbaaElt
import Derived.Test.YtojpcfjlenjfbaaArgs
set_option linter.unusedVariables false
set_option linter.unusedSimpArgs false
namespace Go.Proofs.Ytojpcfjlenjfbaa
open Go.RowKit Go.Tk
def i64b (x : Int) : Prop := -9223372036854775808 ≤ x ∧ x ≤ 9223372036854775807
def fair8 (b m : Int) : Bool := decide (1 ≤ b) && decide (b ≤ m) && decide (m ≤ 1073741824)
theorem fair8_yes {b m : Int} (h : fair8 b m = true) : 1 ≤ b ∧ b ≤ m ∧ m ≤ 1073741824 := by
  simp only [fair8, Bool.and_eq_true, decide_eq_true_eq] at h
  exact ⟨h.1.1, h.1.2, h.2⟩
theorem fair8_of {b m : Int} (h : 1 ≤ b ∧ b ≤ m ∧ m ≤ 1073741824) : fair8 b m = true := by
  simp [fair8, h.1, h.2.1, h.2.2]
def wait8 (b m k : Int) : Int := if fair8 b m = true ∧ 0 ≤ k then min (b * 2 ^ (min k 30).toNat) m else 0
set_option maxRecDepth 100000 in
theorem q_fair (b m : Int) (w : World) : Calls Try.prog 28 #[.int .i64 b, .int .i64 m] w (fun e w' => e = .returned (.bool (fair8 b m)) ∧ Mem w [] w' []) := by
  have O : Mem w [] w [] := Mem.begin
  obtain ⟨r, hr⟩ : ∃ r, r = fair8 b m := ⟨_, rfl⟩
  rw [← hr]
  by_cases h1 : 1 ≤ b
  · have e1 : decide (1 ≤ b) = true := by simpa using h1
    by_cases h2 : b ≤ m
    · have e2 : decide (b ≤ m) = true := by simpa using h2
      by_cases h3 : m ≤ 1073741824
      · have e3 : decide (m ≤ 1073741824) = true := by simpa using h3
        have : r = true := by rw [hr]; exact fair8_of ⟨h1, h2, h3⟩
        subst this
        clear hr
        go_enter Try.func28, Try.ntmps28
        have cs := O.facts
        try simp only [factsP, cellsP, roomP, foots_cons, foots_nil, foots_append, foot_pt, ptb, ptb_mapA, foot_mapA, factsP_mapA, foot_bun, List.append_nil, List.nil_append, List.cons_append, List.nodup_cons, List.nodup_nil, List.mem_cons, List.not_mem_nil, List.mem_singleton, List.forall_mem_cons, not_or, not_false_eq_true, and_true, true_and, or_false, false_or, forall_eq_or_imp, forall_eq, implies_true, Nat.zero_add, Nat.reduceAdd, and_assoc, ptb_listA, factsP_listA] at cs
        go_wp2_with fail
        go_ret
        exact ⟨rfl, O⟩
      · have e3 : decide (m ≤ 1073741824) = false := by simpa using h3
        have : r = false := by rw [hr]; simp [fair8, h3]
        subst this
        clear hr
        go_enter Try.func28, Try.ntmps28
        have cs := O.facts
        try simp only [factsP, cellsP, roomP, foots_cons, foots_nil, foots_append, foot_pt, ptb, ptb_mapA, foot_mapA, factsP_mapA, foot_bun, List.append_nil, List.nil_append, List.cons_append, List.nodup_cons, List.nodup_nil, List.mem_cons, List.not_mem_nil, List.mem_singleton, List.forall_mem_cons, not_or, not_false_eq_true, and_true, true_and, or_false, false_or, forall_eq_or_imp, forall_eq, implies_true, Nat.zero_add, Nat.reduceAdd, and_assoc, ptb_listA, factsP_listA] at cs
        go_wp2_with fail
        go_ret
        exact ⟨rfl, O⟩
    · have e2 : decide (b ≤ m) = false := by simpa using h2
      have : r = false := by rw [hr]; simp [fair8]; omega
      subst this
      clear hr
      go_enter Try.func28, Try.ntmps28
      have cs := O.facts
      try simp only [factsP, cellsP, roomP, foots_cons, foots_nil, foots_append, foot_pt, ptb, ptb_mapA, foot_mapA, factsP_mapA, foot_bun, List.append_nil, List.nil_append, List.cons_append, List.nodup_cons, List.nodup_nil, List.mem_cons, List.not_mem_nil, List.mem_singleton, List.forall_mem_cons, not_or, not_false_eq_true, and_true, true_and, or_false, false_or, forall_eq_or_imp, forall_eq, implies_true, Nat.zero_add, Nat.reduceAdd, and_assoc, ptb_listA, factsP_listA] at cs
      go_wp2_with fail
      go_ret
      exact ⟨rfl, O⟩
  · have e1 : decide (1 ≤ b) = false := by simpa using h1
    have : r = false := by rw [hr]; simp [fair8]; omega
    subst this
    clear hr
    go_enter Try.func28, Try.ntmps28
    have cs := O.facts
    try simp only [factsP, cellsP, roomP, foots_cons, foots_nil, foots_append, foot_pt, ptb, ptb_mapA, foot_mapA, factsP_mapA, foot_bun, List.append_nil, List.nil_append, List.cons_append, List.nodup_cons, List.nodup_nil, List.mem_cons, List.not_mem_nil, List.mem_singleton, List.forall_mem_cons, not_or, not_false_eq_true, and_true, true_and, or_false, false_or, forall_eq_or_imp, forall_eq, implies_true, Nat.zero_add, Nat.reduceAdd, and_assoc, ptb_listA, factsP_listA] at cs
    go_wp2_with fail
    go_ret
    exact ⟨rfl, O⟩
theorem pow_bound {n : Nat} (h : n ≤ 30) : (1 : Int) ≤ 2 ^ n ∧ (2 : Int) ^ n ≤ 1073741824 := by
  have h1 : 2 ^ n ≤ 2 ^ 30 := Nat.pow_le_pow_right (by omega) h
  have h2 : 1 ≤ 2 ^ n := Nat.one_le_two_pow
  have e : ((2 ^ n : Nat) : Int) = (2 : Int) ^ n := by simp
  rw [← e]
  omega
theorem prod_bound {b p : Int} (hb : 1 ≤ b ∧ b ≤ 1073741824) (hp : 1 ≤ p ∧ p ≤ 1073741824) : 1 ≤ b * p ∧ b * p ≤ 1152921504606846976 := by
  constructor
  · have := Int.mul_le_mul hb.1 hp.1 (by omega) (by omega)
    omega
  · have := Int.mul_le_mul hb.2 hp.2 (by omega) (by omega)
    omega
theorem wait8_eq {b m k : Int} (hf : fair8 b m = true) (hk : 0 ≤ k) : wrap64 (b * 2 ^ (if 30 < k then 30 else k).toNat) = b * 2 ^ (if 30 < k then 30 else k).toNat ∧ wait8 b m k = if b * 2 ^ (if 30 < k then 30 else k).toNat ≤ m then b * 2 ^ (if 30 < k then 30 else k).toNat else m := by
  obtain ⟨h1, h2, h3⟩ := fair8_yes hf
  have e : min k 30 = if 30 < k then 30 else k := by
    split <;> omega
  have hn : (if 30 < k then 30 else k).toNat ≤ 30 := by split <;> omega
  have hp := prod_bound (b := b) ⟨h1, by omega⟩ (pow_bound hn)
  refine ⟨?_, ?_⟩
  · generalize b * 2 ^ (if 30 < k then 30 else k).toNat = p at *
    simp [wrap64]
    omega
  · unfold wait8
    rw [if_pos ⟨hf, hk⟩, e]
    omega
set_option maxRecDepth 100000 in
theorem q_Wait (b m k : Int) (hk : i64b k) (w : World) : Calls Try.prog 9 #[.int .i64 b, .int .i64 m, .int .i64 k] w (fun e w' => e = .returned (.int .i64 (wait8 b m k)) ∧ Mem w [] w' []) := by
  have O : Mem w [] w [] := Mem.begin
  have CF := Lib.hid (fun W => q_fair b m W)
  obtain ⟨r, hr⟩ : ∃ r, r = wait8 b m k := ⟨_, rfl⟩
  rw [← hr]
  have HR := Lib.hid hr
  clear hr
  cases hf : fair8 b m
  · have : r = 0 := by rw [HR.out]; simp [wait8, hf]
    subst this
    rw [hf] at CF
    clear HR
    skip
    go_enter Try.func9, Try.ntmps9
    have cs := O.facts
    try simp only [factsP, cellsP, roomP, foots_cons, foots_nil, foots_append, foot_pt, ptb, ptb_mapA, foot_mapA, factsP_mapA, foot_bun, List.append_nil, List.nil_append, List.cons_append, List.nodup_cons, List.nodup_nil, List.mem_cons, List.not_mem_nil, List.mem_singleton, List.forall_mem_cons, not_or, not_false_eq_true, and_true, true_and, or_false, false_or, forall_eq_or_imp, forall_eq, implies_true, Nat.zero_add, Nat.reduceAdd, and_assoc, ptb_listA, factsP_listA] at cs
    go_wp2_with fail
    first | apply Mem.atCall | apply Mem.atCode | apply Mem.atList
    case h => repeat' (first | (with_reducible exact O) | (with_reducible apply Mem.drew) | (with_reducible apply Mem.drewN) | (with_reducible apply Mem.ext) | (with_reducible apply Mem.alloc) | (with_reducible apply Mem.setCell) | (simp only [ptb, ptb_upd, foots_cons, List.mem_cons, World.size_alloc, size_ext, World.size_setCell, true_or, or_true, eq_self_iff_true, ptb_listA]))
    case' k =>
      intro w1 O'
      (try clear O)
      have O := O'
      clear O'
      (first | simp only [sel, rst, List.cons_append, List.nil_append, World.size_alloc, size_ext, World.size_setCell, size_setMap, World.size_drew, size_drewN, upd, List.set_cons_zero, List.set_cons_succ, if_true, if_false, reduceIte, not_false_eq_true, ne_lt0, ne_lt1, ne_lt2, ne_lt3, ne_lt4, cs] at O | simp only [sel, rst, List.cons_append, List.nil_append, World.size_alloc, size_ext, World.size_setCell, size_setMap, World.size_drew, size_drewN, upd, List.set_cons_zero, List.set_cons_succ, if_true, if_false, reduceIte, not_false_eq_true, ne_lt0, ne_lt1, ne_lt2, ne_lt3, ne_lt4] at O | skip)
      (try clear cs)
      (try clear v1)
      (try clear v2)
      (try clear v3)
    refine (CF.out _).mono ?_
    rintro e w2 ⟨rfl, o⟩
    replace O := O.callp [] o
    clear o
    simp only [put, List.cons_append, List.nil_append] at O
    have cs := O.facts
    try simp only [factsP, cellsP, roomP, foots_cons, foots_nil, foots_append, foot_pt, ptb, ptb_mapA, foot_mapA, factsP_mapA, foot_bun, List.append_nil, List.nil_append, List.cons_append, List.nodup_cons, List.nodup_nil, List.mem_cons, List.not_mem_nil, List.mem_singleton, List.forall_mem_cons, not_or, not_false_eq_true, and_true, true_and, or_false, false_or, forall_eq_or_imp, forall_eq, implies_true, Nat.zero_add, Nat.reduceAdd, and_assoc, ptb_listA, factsP_listA] at cs
    go_wp2_with fail
    go_ret
    exact ⟨rfl, O⟩
  · rw [hf] at CF
    by_cases hk0 : k < 0
    · have hk1 : decide (k < 0) = true := by simpa using hk0
      have : r = 0 := by rw [HR.out]; simp [wait8]; omega
      subst this
      clear HR
      skip
      go_enter Try.func9, Try.ntmps9
      have cs := O.facts
      try simp only [factsP, cellsP, roomP, foots_cons, foots_nil, foots_append, foot_pt, ptb, ptb_mapA, foot_mapA, factsP_mapA, foot_bun, List.append_nil, List.nil_append, List.cons_append, List.nodup_cons, List.nodup_nil, List.mem_cons, List.not_mem_nil, List.mem_singleton, List.forall_mem_cons, not_or, not_false_eq_true, and_true, true_and, or_false, false_or, forall_eq_or_imp, forall_eq, implies_true, Nat.zero_add, Nat.reduceAdd, and_assoc, ptb_listA, factsP_listA] at cs
      go_wp2_with fail
      first | apply Mem.atCall | apply Mem.atCode | apply Mem.atList
      case h => repeat' (first | (with_reducible exact O) | (with_reducible apply Mem.drew) | (with_reducible apply Mem.drewN) | (with_reducible apply Mem.ext) | (with_reducible apply Mem.alloc) | (with_reducible apply Mem.setCell) | (simp only [ptb, ptb_upd, foots_cons, List.mem_cons, World.size_alloc, size_ext, World.size_setCell, true_or, or_true, eq_self_iff_true, ptb_listA]))
      case' k =>
        intro w1 O'
        (try clear O)
        have O := O'
        clear O'
        (first | simp only [sel, rst, List.cons_append, List.nil_append, World.size_alloc, size_ext, World.size_setCell, size_setMap, World.size_drew, size_drewN, upd, List.set_cons_zero, List.set_cons_succ, if_true, if_false, reduceIte, not_false_eq_true, ne_lt0, ne_lt1, ne_lt2, ne_lt3, ne_lt4, cs] at O | simp only [sel, rst, List.cons_append, List.nil_append, World.size_alloc, size_ext, World.size_setCell, size_setMap, World.size_drew, size_drewN, upd, List.set_cons_zero, List.set_cons_succ, if_true, if_false, reduceIte, not_false_eq_true, ne_lt0, ne_lt1, ne_lt2, ne_lt3, ne_lt4] at O | skip)
        (try clear cs)
        (try clear v1)
        (try clear v2)
        (try clear v3)
      refine (CF.out _).mono ?_
      rintro e w2 ⟨rfl, o⟩
      replace O := O.callp [] o
      clear o
      simp only [put, List.cons_append, List.nil_append] at O
      have cs := O.facts
      try simp only [factsP, cellsP, roomP, foots_cons, foots_nil, foots_append, foot_pt, ptb, ptb_mapA, foot_mapA, factsP_mapA, foot_bun, List.append_nil, List.nil_append, List.cons_append, List.nodup_cons, List.nodup_nil, List.mem_cons, List.not_mem_nil, List.mem_singleton, List.forall_mem_cons, not_or, not_false_eq_true, and_true, true_and, or_false, false_or, forall_eq_or_imp, forall_eq, implies_true, Nat.zero_add, Nat.reduceAdd, and_assoc, ptb_listA, factsP_listA] at cs
      go_wp2_with fail
      go_ret
      exact ⟨rfl, O⟩
    · have hk1 : decide (k < 0) = false := by simpa using hk0
      skip
      go_enter Try.func9, Try.ntmps9
      have cs := O.facts
      try simp only [factsP, cellsP, roomP, foots_cons, foots_nil, foots_append, foot_pt, ptb, ptb_mapA, foot_mapA, factsP_mapA, foot_bun, List.append_nil, List.nil_append, List.cons_append, List.nodup_cons, List.nodup_nil, List.mem_cons, List.not_mem_nil, List.mem_singleton, List.forall_mem_cons, not_or, not_false_eq_true, and_true, true_and, or_false, false_or, forall_eq_or_imp, forall_eq, implies_true, Nat.zero_add, Nat.reduceAdd, and_assoc, ptb_listA, factsP_listA] at cs
      go_wp2_with fail
      first | apply Mem.atCall | apply Mem.atCode | apply Mem.atList
      case h => repeat' (first | (with_reducible exact O) | (with_reducible apply Mem.drew) | (with_reducible apply Mem.drewN) | (with_reducible apply Mem.ext) | (with_reducible apply Mem.alloc) | (with_reducible apply Mem.setCell) | (simp only [ptb, ptb_upd, foots_cons, List.mem_cons, World.size_alloc, size_ext, World.size_setCell, true_or, or_true, eq_self_iff_true, ptb_listA]))
      case' k =>
        intro w1 O'
        (try clear O)
        have O := O'
        clear O'
        (first | simp only [sel, rst, List.cons_append, List.nil_append, World.size_alloc, size_ext, World.size_setCell, size_setMap, World.size_drew, size_drewN, upd, List.set_cons_zero, List.set_cons_succ, if_true, if_false, reduceIte, not_false_eq_true, ne_lt0, ne_lt1, ne_lt2, ne_lt3, ne_lt4, cs] at O | simp only [sel, rst, List.cons_append, List.nil_append, World.size_alloc, size_ext, World.size_setCell, size_setMap, World.size_drew, size_drewN, upd, List.set_cons_zero, List.set_cons_succ, if_true, if_false, reduceIte, not_false_eq_true, ne_lt0, ne_lt1, ne_lt2, ne_lt3, ne_lt4] at O | skip)
        (try clear cs)
        (try clear v1)
        (try clear v2)
        (try clear v3)
      refine (CF.out _).mono ?_
      rintro e w2 ⟨rfl, o⟩
      replace O := O.callp [] o
      clear o
      simp only [put, List.cons_append, List.nil_append] at O
      have HW := Lib.hid (wait8_eq hf (by omega))
      clear hf CF
      have e30 : (2 : Int) ^ (Int.toNat 30) = 1073741824 := by decide
      have E30 := Lib.hid e30
      clear e30
      by_cases h30 : 30 < k
      · have HH := Lib.hid h30
        have cs := O.facts
        try simp only [factsP, cellsP, roomP, foots_cons, foots_nil, foots_append, foot_pt, ptb, ptb_mapA, foot_mapA, factsP_mapA, foot_bun, List.append_nil, List.nil_append, List.cons_append, List.nodup_cons, List.nodup_nil, List.mem_cons, List.not_mem_nil, List.mem_singleton, List.forall_mem_cons, not_or, not_false_eq_true, and_true, true_and, or_false, false_or, forall_eq_or_imp, forall_eq, implies_true, Nat.zero_add, Nat.reduceAdd, and_assoc, ptb_listA, factsP_listA] at cs
        go_wp2_with fail
        all_goals go_ret
        all_goals refine ⟨?_, O⟩
        all_goals rw [HR.out, HW.out.2, if_pos HH.out, E30.out]
        all_goals have hw1 := HW.out.1
        all_goals rw [if_pos HH.out, E30.out] at hw1
        all_goals rw [hw1] at h
        all_goals generalize b * 1073741824 = p at *
        · rw [if_neg (by omega)]
          rfl
        · rw [if_pos (by omega)]
          show Ending.returned (.int .i64 (wrap64 p)) = _
          rw [hw1]
      · have HH : Hid (¬ 30 < k) := Lib.hid h30
        have h31 : k ≤ 30 := by omega
        clear h30
        have cs := O.facts
        try simp only [factsP, cellsP, roomP, foots_cons, foots_nil, foots_append, foot_pt, ptb, ptb_mapA, foot_mapA, factsP_mapA, foot_bun, List.append_nil, List.nil_append, List.cons_append, List.nodup_cons, List.nodup_nil, List.mem_cons, List.not_mem_nil, List.mem_singleton, List.forall_mem_cons, not_or, not_false_eq_true, and_true, true_and, or_false, false_or, forall_eq_or_imp, forall_eq, implies_true, Nat.zero_add, Nat.reduceAdd, and_assoc, ptb_listA, factsP_listA] at cs
        go_wp2_with fail
        all_goals go_ret
        all_goals refine ⟨?_, O⟩
        all_goals have hh : ¬ 30 < k := by omega
        all_goals rw [HR.out, HW.out.2, if_neg hh]
        all_goals have hw1 := HW.out.1
        all_goals rw [if_neg hh] at hw1
        all_goals rw [hw1] at h
        all_goals generalize b * 2 ^ k.toNat = p at *
        · rw [if_neg (by omega)]
          rfl
        · rw [if_pos (by omega)]
          show Ending.returned (.int .i64 (wrap64 p)) = _
          rw [hw1]
set_option maxRecDepth 100000 in
theorem r_Fair (b m : Int) (w : World) : Calls Try.prog 17 #[.int .i64 b, .int .i64 m] w (fun e w' => e = .returned (.bool (fair8 b m)) ∧ Mem w [] w' []) := by
  have O : Mem w [] w [] := Mem.begin
  obtain ⟨r, hr⟩ : ∃ r, r = fair8 b m := ⟨_, rfl⟩
  rw [← hr]
  by_cases h1 : 1 ≤ b
  · have e1 : decide (1 ≤ b) = true := by simpa using h1
    by_cases h2 : b ≤ m
    · have e2 : decide (b ≤ m) = true := by simpa using h2
      by_cases h3 : m ≤ 1073741824
      · have e3 : decide (m ≤ 1073741824) = true := by simpa using h3
        have : r = true := by rw [hr]; exact fair8_of ⟨h1, h2, h3⟩
        subst this
        clear hr
        go_enter Try.func17, Try.ntmps17
        have cs := O.facts
        try simp only [factsP, cellsP, roomP, foots_cons, foots_nil, foots_append, foot_pt, ptb, ptb_mapA, foot_mapA, factsP_mapA, foot_bun, List.append_nil, List.nil_append, List.cons_append, List.nodup_cons, List.nodup_nil, List.mem_cons, List.not_mem_nil, List.mem_singleton, List.forall_mem_cons, not_or, not_false_eq_true, and_true, true_and, or_false, false_or, forall_eq_or_imp, forall_eq, implies_true, Nat.zero_add, Nat.reduceAdd, and_assoc, ptb_listA, factsP_listA] at cs
        go_wp2_with fail
        go_ret
        exact ⟨rfl, O⟩
      · have e3 : decide (m ≤ 1073741824) = false := by simpa using h3
        have : r = false := by rw [hr]; simp [fair8, h3]
        subst this
        clear hr
        go_enter Try.func17, Try.ntmps17
        have cs := O.facts
        try simp only [factsP, cellsP, roomP, foots_cons, foots_nil, foots_append, foot_pt, ptb, ptb_mapA, foot_mapA, factsP_mapA, foot_bun, List.append_nil, List.nil_append, List.cons_append, List.nodup_cons, List.nodup_nil, List.mem_cons, List.not_mem_nil, List.mem_singleton, List.forall_mem_cons, not_or, not_false_eq_true, and_true, true_and, or_false, false_or, forall_eq_or_imp, forall_eq, implies_true, Nat.zero_add, Nat.reduceAdd, and_assoc, ptb_listA, factsP_listA] at cs
        go_wp2_with fail
        go_ret
        exact ⟨rfl, O⟩
    · have e2 : decide (b ≤ m) = false := by simpa using h2
      have : r = false := by rw [hr]; simp [fair8]; omega
      subst this
      clear hr
      go_enter Try.func17, Try.ntmps17
      have cs := O.facts
      try simp only [factsP, cellsP, roomP, foots_cons, foots_nil, foots_append, foot_pt, ptb, ptb_mapA, foot_mapA, factsP_mapA, foot_bun, List.append_nil, List.nil_append, List.cons_append, List.nodup_cons, List.nodup_nil, List.mem_cons, List.not_mem_nil, List.mem_singleton, List.forall_mem_cons, not_or, not_false_eq_true, and_true, true_and, or_false, false_or, forall_eq_or_imp, forall_eq, implies_true, Nat.zero_add, Nat.reduceAdd, and_assoc, ptb_listA, factsP_listA] at cs
      go_wp2_with fail
      go_ret
      exact ⟨rfl, O⟩
  · have e1 : decide (1 ≤ b) = false := by simpa using h1
    have : r = false := by rw [hr]; simp [fair8]; omega
    subst this
    clear hr
    go_enter Try.func17, Try.ntmps17
    have cs := O.facts
    try simp only [factsP, cellsP, roomP, foots_cons, foots_nil, foots_append, foot_pt, ptb, ptb_mapA, foot_mapA, factsP_mapA, foot_bun, List.append_nil, List.nil_append, List.cons_append, List.nodup_cons, List.nodup_nil, List.mem_cons, List.not_mem_nil, List.mem_singleton, List.forall_mem_cons, not_or, not_false_eq_true, and_true, true_and, or_false, false_or, forall_eq_or_imp, forall_eq, implies_true, Nat.zero_add, Nat.reduceAdd, and_assoc, ptb_listA, factsP_listA] at cs
    go_wp2_with fail
    go_ret
    exact ⟨rfl, O⟩
theorem pow_mono {b : Int} (hb : 1 ≤ b) {i j : Nat} (h : i ≤ j) : b * 2 ^ i ≤ b * 2 ^ j := by
  have h1 : 2 ^ i ≤ 2 ^ j := Nat.pow_le_pow_right (by omega) h
  have e1 : ((2 ^ i : Nat) : Int) = (2 : Int) ^ i := by simp
  have e2 : ((2 ^ j : Nat) : Int) = (2 : Int) ^ j := by simp
  rw [← e1, ← e2]
  exact Int.mul_le_mul_of_nonneg_left (by omega) (by omega)
theorem wait_end {b m k : Int} (hf : fair8 b m = true) (hk : 0 ≤ k) {i : Nat} (hi : i ≤ k.toNat) (h2 : b * 2 ^ i < 2 * m) (he : i = k.toNat ∨ m ≤ b * 2 ^ i) : wait8 b m k = if m < b * 2 ^ i then m else b * 2 ^ i := by
  obtain ⟨f1, f2, f3⟩ := fair8_yes hf
  rw [(wait8_eq hf hk).2]
  rcases he with he | he
  · by_cases h30 : 30 < k
    · have := pow_mono f1 (show 31 ≤ i by omega)
      omega
    · rw [if_neg h30, ← he]
      split <;> split <;> omega
  · have hp : m ≤ b * 2 ^ (if 30 < k then 30 else k).toNat := by
      by_cases h30 : 30 < k
      · rw [if_pos h30]
        have : b * 2 ^ (Int.toNat 30) = b * 1073741824 := by rw [show (2 : Int) ^ (Int.toNat 30) = 1073741824 by decide]
        omega
      · rw [if_neg h30]
        exact Int.le_trans he (pow_mono f1 hi)
    generalize b * 2 ^ (if 30 < k then 30 else k).toNat = p at *
    generalize b * 2 ^ i = v at *
    split <;> split <;> omega
set_option maxRecDepth 100000 in
theorem r_Wait (b m k : Int) (hk : i64b k) (w : World) : Calls Try.prog 10 #[.int .i64 b, .int .i64 m, .int .i64 k] w (fun e w' => e = .returned (.int .i64 (wait8 b m k)) ∧ Mem w [] w' []) := by
  have O : Mem w [] w [] := Mem.begin
  have CF := Lib.hid (fun W => r_Fair b m W)
  obtain ⟨r, hr⟩ : ∃ r, r = wait8 b m k := ⟨_, rfl⟩
  rw [← hr]
  have HR := Lib.hid hr
  clear hr
  cases hf : fair8 b m
  · have : r = 0 := by rw [HR.out]; simp [wait8, hf]
    subst this
    rw [hf] at CF
    clear HR
    skip
    go_enter Try.func10, Try.ntmps10
    have cs := O.facts
    try simp only [factsP, cellsP, roomP, foots_cons, foots_nil, foots_append, foot_pt, ptb, ptb_mapA, foot_mapA, factsP_mapA, foot_bun, List.append_nil, List.nil_append, List.cons_append, List.nodup_cons, List.nodup_nil, List.mem_cons, List.not_mem_nil, List.mem_singleton, List.forall_mem_cons, not_or, not_false_eq_true, and_true, true_and, or_false, false_or, forall_eq_or_imp, forall_eq, implies_true, Nat.zero_add, Nat.reduceAdd, and_assoc, ptb_listA, factsP_listA] at cs
    go_wp2_with fail
    first | apply Mem.atCall | apply Mem.atCode | apply Mem.atList
    case h => repeat' (first | (with_reducible exact O) | (with_reducible apply Mem.drew) | (with_reducible apply Mem.drewN) | (with_reducible apply Mem.ext) | (with_reducible apply Mem.alloc) | (with_reducible apply Mem.setCell) | (simp only [ptb, ptb_upd, foots_cons, List.mem_cons, World.size_alloc, size_ext, World.size_setCell, true_or, or_true, eq_self_iff_true, ptb_listA]))
    case' k =>
      intro w1 O'
      (try clear O)
      have O := O'
      clear O'
      (first | simp only [sel, rst, List.cons_append, List.nil_append, World.size_alloc, size_ext, World.size_setCell, size_setMap, World.size_drew, size_drewN, upd, List.set_cons_zero, List.set_cons_succ, if_true, if_false, reduceIte, not_false_eq_true, ne_lt0, ne_lt1, ne_lt2, ne_lt3, ne_lt4, cs] at O | simp only [sel, rst, List.cons_append, List.nil_append, World.size_alloc, size_ext, World.size_setCell, size_setMap, World.size_drew, size_drewN, upd, List.set_cons_zero, List.set_cons_succ, if_true, if_false, reduceIte, not_false_eq_true, ne_lt0, ne_lt1, ne_lt2, ne_lt3, ne_lt4] at O | skip)
      (try clear cs)
      (try clear v1)
      (try clear v2)
      (try clear v3)
    refine (CF.out _).mono ?_
    rintro e w2 ⟨rfl, o⟩
    replace O := O.callp [] o
    clear o
    simp only [put, List.cons_append, List.nil_append] at O
    have cs := O.facts
    try simp only [factsP, cellsP, roomP, foots_cons, foots_nil, foots_append, foot_pt, ptb, ptb_mapA, foot_mapA, factsP_mapA, foot_bun, List.append_nil, List.nil_append, List.cons_append, List.nodup_cons, List.nodup_nil, List.mem_cons, List.not_mem_nil, List.mem_singleton, List.forall_mem_cons, not_or, not_false_eq_true, and_true, true_and, or_false, false_or, forall_eq_or_imp, forall_eq, implies_true, Nat.zero_add, Nat.reduceAdd, and_assoc, ptb_listA, factsP_listA] at cs
    go_wp2_with fail
    go_ret
    exact ⟨rfl, O⟩
  · rw [hf] at CF
    by_cases hk0 : k < 0
    · have hk1 : decide (k < 0) = true := by simpa using hk0
      have : r = 0 := by rw [HR.out]; simp [wait8]; omega
      subst this
      clear HR
      skip
      go_enter Try.func10, Try.ntmps10
      have cs := O.facts
      try simp only [factsP, cellsP, roomP, foots_cons, foots_nil, foots_append, foot_pt, ptb, ptb_mapA, foot_mapA, factsP_mapA, foot_bun, List.append_nil, List.nil_append, List.cons_append, List.nodup_cons, List.nodup_nil, List.mem_cons, List.not_mem_nil, List.mem_singleton, List.forall_mem_cons, not_or, not_false_eq_true, and_true, true_and, or_false, false_or, forall_eq_or_imp, forall_eq, implies_true, Nat.zero_add, Nat.reduceAdd, and_assoc, ptb_listA, factsP_listA] at cs
      go_wp2_with fail
      first | apply Mem.atCall | apply Mem.atCode | apply Mem.atList
      case h => repeat' (first | (with_reducible exact O) | (with_reducible apply Mem.drew) | (with_reducible apply Mem.drewN) | (with_reducible apply Mem.ext) | (with_reducible apply Mem.alloc) | (with_reducible apply Mem.setCell) | (simp only [ptb, ptb_upd, foots_cons, List.mem_cons, World.size_alloc, size_ext, World.size_setCell, true_or, or_true, eq_self_iff_true, ptb_listA]))
      case' k =>
        intro w1 O'
        (try clear O)
        have O := O'
        clear O'
        (first | simp only [sel, rst, List.cons_append, List.nil_append, World.size_alloc, size_ext, World.size_setCell, size_setMap, World.size_drew, size_drewN, upd, List.set_cons_zero, List.set_cons_succ, if_true, if_false, reduceIte, not_false_eq_true, ne_lt0, ne_lt1, ne_lt2, ne_lt3, ne_lt4, cs] at O | simp only [sel, rst, List.cons_append, List.nil_append, World.size_alloc, size_ext, World.size_setCell, size_setMap, World.size_drew, size_drewN, upd, List.set_cons_zero, List.set_cons_succ, if_true, if_false, reduceIte, not_false_eq_true, ne_lt0, ne_lt1, ne_lt2, ne_lt3, ne_lt4] at O | skip)
        (try clear cs)
        (try clear v1)
        (try clear v2)
        (try clear v3)
      refine (CF.out _).mono ?_
      rintro e w2 ⟨rfl, o⟩
      replace O := O.callp [] o
      clear o
      simp only [put, List.cons_append, List.nil_append] at O
      have cs := O.facts
      try simp only [factsP, cellsP, roomP, foots_cons, foots_nil, foots_append, foot_pt, ptb, ptb_mapA, foot_mapA, factsP_mapA, foot_bun, List.append_nil, List.nil_append, List.cons_append, List.nodup_cons, List.nodup_nil, List.mem_cons, List.not_mem_nil, List.mem_singleton, List.forall_mem_cons, not_or, not_false_eq_true, and_true, true_and, or_false, false_or, forall_eq_or_imp, forall_eq, implies_true, Nat.zero_add, Nat.reduceAdd, and_assoc, ptb_listA, factsP_listA] at cs
      go_wp2_with fail
      go_ret
      exact ⟨rfl, O⟩
    · have hk1 : decide (k < 0) = false := by simpa using hk0
      have HF := Lib.hid hf
      have HFY := Lib.hid (fair8_yes hf)
      obtain ⟨K, rfl⟩ : ∃ K : Nat, k = K := ⟨k.toNat, by omega⟩
      clear hf hk0
      skip
      go_enter Try.func10, Try.ntmps10
      have cs := O.facts
      try simp only [factsP, cellsP, roomP, foots_cons, foots_nil, foots_append, foot_pt, ptb, ptb_mapA, foot_mapA, factsP_mapA, foot_bun, List.append_nil, List.nil_append, List.cons_append, List.nodup_cons, List.nodup_nil, List.mem_cons, List.not_mem_nil, List.mem_singleton, List.forall_mem_cons, not_or, not_false_eq_true, and_true, true_and, or_false, false_or, forall_eq_or_imp, forall_eq, implies_true, Nat.zero_add, Nat.reduceAdd, and_assoc, ptb_listA, factsP_listA] at cs
      go_wp2_with fail
      first | apply Mem.atCall | apply Mem.atCode | apply Mem.atList
      case h => repeat' (first | (with_reducible exact O) | (with_reducible apply Mem.drew) | (with_reducible apply Mem.drewN) | (with_reducible apply Mem.ext) | (with_reducible apply Mem.alloc) | (with_reducible apply Mem.setCell) | (simp only [ptb, ptb_upd, foots_cons, List.mem_cons, World.size_alloc, size_ext, World.size_setCell, true_or, or_true, eq_self_iff_true, ptb_listA]))
      case' k =>
        intro w1 O'
        (try clear O)
        have O := O'
        clear O'
        (first | simp only [sel, rst, List.cons_append, List.nil_append, World.size_alloc, size_ext, World.size_setCell, size_setMap, World.size_drew, size_drewN, upd, List.set_cons_zero, List.set_cons_succ, if_true, if_false, reduceIte, not_false_eq_true, ne_lt0, ne_lt1, ne_lt2, ne_lt3, ne_lt4, cs] at O | simp only [sel, rst, List.cons_append, List.nil_append, World.size_alloc, size_ext, World.size_setCell, size_setMap, World.size_drew, size_drewN, upd, List.set_cons_zero, List.set_cons_succ, if_true, if_false, reduceIte, not_false_eq_true, ne_lt0, ne_lt1, ne_lt2, ne_lt3, ne_lt4] at O | skip)
        (try clear cs)
        (try clear v1)
        (try clear v2)
        (try clear v3)
      refine (CF.out _).mono ?_
      rintro e w2 ⟨rfl, o⟩
      replace O := O.callp [] o
      clear o
      simp only [put, List.cons_append, List.nil_append] at O
      have cs := O.facts
      try simp only [factsP, cellsP, roomP, foots_cons, foots_nil, foots_append, foot_pt, ptb, ptb_mapA, foot_mapA, factsP_mapA, foot_bun, List.append_nil, List.nil_append, List.cons_append, List.nodup_cons, List.nodup_nil, List.mem_cons, List.not_mem_nil, List.mem_singleton, List.forall_mem_cons, not_or, not_false_eq_true, and_true, true_and, or_false, false_or, forall_eq_or_imp, forall_eq, implies_true, Nat.zero_add, Nat.reduceAdd, and_assoc, ptb_listA, factsP_listA] at cs
      go_wp2_with fail
      clear cs
      go_loopw [8, 9] (fun s8 s9 wr => ∃ (i : Nat), i ≤ K ∧ s9 = .int .i64 i ∧ s8 = .int .i64 (b * 2 ^ i) ∧ b * 2 ^ i < 2 * m ∧ b ≤ b * 2 ^ i ∧ Mem w [] wr []) (fun _ s9 _ => K - (intOf s9).toNat)
      case atStart => exact ⟨0, by omega, rfl, by simp, by have := HFY.out; simp; omega, by simp, O⟩
      case round =>
        clear O
        obtain ⟨i, hiK, rfl, rfl, hv2, hv1, O⟩ := hrel
        have hfy := HFY.out
        have hnx : b * 2 ^ (i + 1) = 2 * (b * 2 ^ i) := by rw [Int.pow_succ]; rw [← Int.mul_assoc]; omega
        have HNX := Lib.hid hnx
        have HEND := Lib.hid (fun (he : i = K ∨ m ≤ b * 2 ^ i) => wait_end (k := (K : Int)) HF.out (by omega) (by omega) hv2 (by simpa using he))
        clear hnx
        generalize b * 2 ^ i = v at *
        by_cases hc : i < K ∧ v < m
        · obtain ⟨hc1, hc2⟩ := hc
          have hc1i : (i : Int) < K := by omega
          have hc1d : decide ((i : Int) < K) = true := by simpa using hc1
          have hc2d : decide (v < m) = true := by simpa using hc2
          have hi64 : (i : Int) + 1 ≤ 9223372036854775807 := by have := hk.2; omega
          skip
          have cs := O.facts
          try simp only [factsP, cellsP, roomP, foots_cons, foots_nil, foots_append, foot_pt, ptb, ptb_mapA, foot_mapA, factsP_mapA, foot_bun, List.append_nil, List.nil_append, List.cons_append, List.nodup_cons, List.nodup_nil, List.mem_cons, List.not_mem_nil, List.mem_singleton, List.forall_mem_cons, not_or, not_false_eq_true, and_true, true_and, or_false, false_or, forall_eq_or_imp, forall_eq, implies_true, Nat.zero_add, Nat.reduceAdd, and_assoc, ptb_listA, factsP_listA] at cs
          go_wp2_with fail
          go_roundw
          case rel => exact ⟨i + 1, by omega, by go_num, by rw [HNX.out], by rw [HNX.out]; omega, by rw [HNX.out]; omega, O⟩
          case measure => simp [intOf]; omega
        · have he : i = K ∨ m ≤ v := by omega
          have hend := HEND.out he
          have hrr := HR.out
          rw [hend] at hrr
          have HRR := Lib.hid hrr
          clear HR HEND hend hrr
          by_cases hm : m < v
          · have hm1 : decide (m < v) = true := by simpa using hm
            have hv1d : decide (v < m) = false := by simp; omega
            have : r = m := by rw [HRR.out, if_pos hm]
            subst this
            clear HRR hc he
            by_cases hi : (i : Int) < K
            · skip
              skip
              have cs := O.facts
              try simp only [factsP, cellsP, roomP, foots_cons, foots_nil, foots_append, foot_pt, ptb, ptb_mapA, foot_mapA, factsP_mapA, foot_bun, List.append_nil, List.nil_append, List.cons_append, List.nodup_cons, List.nodup_nil, List.mem_cons, List.not_mem_nil, List.mem_singleton, List.forall_mem_cons, not_or, not_false_eq_true, and_true, true_and, or_false, false_or, forall_eq_or_imp, forall_eq, implies_true, Nat.zero_add, Nat.reduceAdd, and_assoc, ptb_listA, factsP_listA] at cs
              go_wp2_with fail
              all_goals first | (exfalso; omega) | (go_ret; exact ⟨rfl, O⟩)
            · skip
              skip
              have cs := O.facts
              try simp only [factsP, cellsP, roomP, foots_cons, foots_nil, foots_append, foot_pt, ptb, ptb_mapA, foot_mapA, factsP_mapA, foot_bun, List.append_nil, List.nil_append, List.cons_append, List.nodup_cons, List.nodup_nil, List.mem_cons, List.not_mem_nil, List.mem_singleton, List.forall_mem_cons, not_or, not_false_eq_true, and_true, true_and, or_false, false_or, forall_eq_or_imp, forall_eq, implies_true, Nat.zero_add, Nat.reduceAdd, and_assoc, ptb_listA, factsP_listA] at cs
              go_wp2_with fail
              all_goals first | (exfalso; omega) | (go_ret; exact ⟨rfl, O⟩)
          · have hm1 : decide (m < v) = false := by simpa using hm
            have : r = v := by rw [HRR.out, if_neg hm]
            subst this
            clear HRR
            by_cases hi : (i : Int) < K
            · skip
              have hv1d : decide (r < m) = false := by simp; omega
              clear hc he
              skip
              have cs := O.facts
              try simp only [factsP, cellsP, roomP, foots_cons, foots_nil, foots_append, foot_pt, ptb, ptb_mapA, foot_mapA, factsP_mapA, foot_bun, List.append_nil, List.nil_append, List.cons_append, List.nodup_cons, List.nodup_nil, List.mem_cons, List.not_mem_nil, List.mem_singleton, List.forall_mem_cons, not_or, not_false_eq_true, and_true, true_and, or_false, false_or, forall_eq_or_imp, forall_eq, implies_true, Nat.zero_add, Nat.reduceAdd, and_assoc, ptb_listA, factsP_listA] at cs
              go_wp2_with fail
              all_goals first | (exfalso; omega) | (go_ret; exact ⟨rfl, O⟩)
            · skip
              clear hc he
              skip
              have cs := O.facts
              try simp only [factsP, cellsP, roomP, foots_cons, foots_nil, foots_append, foot_pt, ptb, ptb_mapA, foot_mapA, factsP_mapA, foot_bun, List.append_nil, List.nil_append, List.cons_append, List.nodup_cons, List.nodup_nil, List.mem_cons, List.not_mem_nil, List.mem_singleton, List.forall_mem_cons, not_or, not_false_eq_true, and_true, true_and, or_false, false_or, forall_eq_or_imp, forall_eq, implies_true, Nat.zero_add, Nat.reduceAdd, and_assoc, ptb_listA, factsP_listA] at cs
              go_wp2_with fail
              all_goals first | (exfalso; omega) | (go_ret; exact ⟨rfl, O⟩)
end Go.Proofs.Ytojpcfjlenjfbaa
