/- WALKS: slices.Delete, slices.Insert of entries. -/
import Derived.Test.YtomcekjhehceoaaSesA20
import Derived.Test.YtomcekjhehceoaaCopyAt
set_option linter.unusedVariables false
set_option linter.unusedSimpArgs false
namespace Go.Proofs.Ytomcekjhehceoaa
open Go.RowKit Go.Tk
theorem zeroEn (w : World) : (zeroValue 65).run Try.prog w = .ok (.agg #[.string .empty, .string .empty]) w := by kernel_rfl
set_option maxRecDepth 100000 in
set_option maxHeartbeats 4000000 in
theorem c_Delete (w : World) (g c p m : Nat) (l : List En) (hl : l.length = m + 1) (hp : p ≤ m) (h : Pre w [entsA (some ⟨g, 0, none⟩) c l]) : Calls Try.prog 31 #[.slice (some ⟨g, 0, none⟩) (m + 1) c, .int .i64 p, .int .i64 ((p : Int) + 1)] w (fun e w' => e = .returned (.slice (some ⟨g, 0, none⟩) m c) ∧ Mem w (foots [entsA (some ⟨g, 0, none⟩) c l]) w' [entsA (some ⟨g, 0, none⟩) c (l.eraseIdx p)]) := by
  have O : Mem w (foots [entsA (some ⟨g, 0, none⟩) c l]) w [entsA (some ⟨g, 0, none⟩) c l] := h
  have hb : m + 1 ≤ c ∧ c ≤ maxLen := by
    obtain ⟨g', cur, _, _, hlc, hmx, _, _⟩ := listA_some (O.hold (entsA (some ⟨g, 0, none⟩) c l) (by simp))
    exact ⟨by omega, hmx⟩
  generalize foots [entsA (some ⟨g, 0, none⟩) c l] = fp at O ⊢
  clear h
  obtain ⟨hlc, hmx⟩ := hb
  have hmx2 : c ≤ 9223372036854775807 := by unfold maxLen at hmx; omega
  have hpi : (p : Int) ≤ (m : Int) := by omega
  have hp1 : (p : Int) + 1 ≤ (m : Int) + 1 := by omega
  have hpc : (p : Int) ≤ c := by omega
  have hp1c : (p : Int) + 1 ≤ c := by omega
  have hm1c : (m : Int) + 1 ≤ c := by omega
  have hmc : (m : Int) ≤ c := by omega
  have hpm : (p : Int) ≤ (m : Int) + 1 := by omega
  have hne : ((p : Int) == (p : Int) + 1) = false := by simp; omega
  have hnn : (p : Int) ≤ (p : Int) + 1 := by omega
  have hmm : (m : Int) ≤ (m : Int) + 1 := by omega
  have hpz : (0 : Int) ≤ (p : Int) + 1 := by omega
  have HER := Lib.hid (show l.eraseIdx p = l.take p ++ l.drop (p + 1) from List.eraseIdx_eq_take_drop_succ l p)
  have HLN := Lib.hid (show (l.drop (p + 1)).length = m - p by rw [List.length_drop, hl]; omega)
  have hlen2 : (l.take p ++ l.drop (p + 1)).length = m := by rw [List.length_append, List.length_take, List.length_drop, hl]; omega
  have HL2 := Lib.hid hlen2
  have hpp : p + (m - p) = m := by omega
  have htn : ((p : Int) + 1).toNat = p + 1 := by omega
  have htm : m + 1 - (p + 1) = m - p := by omega
  rw [HER.out]
  have HL := Lib.hid hl
  clear hlen2 hl
  by_cases hc1 : c = p + 1
  · subst hc1
    obtain rfl : m = p := by omega
    have HD := Lib.hid (show l.drop (m + 1) = [] from List.drop_eq_nil_of_le (by rw [HL.out]; exact Nat.le_refl _))
    rw [HD.out] at HL2 ⊢
    go_enter Try.func31, Try.ntmps31
    skip
    have cs := O.facts
    try simp only [factsP, cellsP, roomP, foots_cons, foots_nil, foots_append, foot_pt, ptb, ptb_mapA, foot_mapA, factsP_mapA, foot_bun, List.append_nil, List.nil_append, List.cons_append, List.nodup_cons, List.nodup_nil, List.mem_cons, List.not_mem_nil, List.mem_singleton, List.forall_mem_cons, not_or, not_false_eq_true, and_true, true_and, or_false, false_or, forall_eq_or_imp, forall_eq, implies_true, Nat.zero_add, Nat.reduceAdd, and_assoc, upd_listA, upd_mapA, upd_bun, upd_fam, ptb_listA, factsP_listA, factsP_mapA, ptb_mapA, Nat.mul_one, factsP_bun, ptb_bun, ptb_fam, factsP_fam, entCells] at cs
    go_upto_region 5 with fail
    apply region_held_mem [false] (by kernel_rfl)
    case O => repeat' (first | (with_reducible exact O) | (with_reducible apply Mem.drew) | (with_reducible apply Mem.drewN) | (with_reducible apply Mem.ext) | (with_reducible apply Mem.alloc) | (with_reducible apply Mem.setCell) | (simp only [ptb, ptb_upd, foots_cons, List.mem_cons, World.size_alloc, size_ext, World.size_setCell, true_or, or_true, eq_self_iff_true, ptb_listA, ptb_mapA, ptb_bun, ptb_fam]))
    case' h =>
      intro wr1 O'
      (try clear O)
      have O := O'
      clear O'
      (first | simp only [sel, rst, List.cons_append, List.nil_append, World.size_alloc, size_ext, World.size_setCell, size_setMap, World.size_drew, size_drewN, upd, List.set_cons_zero, List.set_cons_succ, if_true, if_false, reduceIte, not_false_eq_true, ne_lt0, ne_lt1, ne_lt2, ne_lt3, ne_lt4, upd_listA, upd_mapA, upd_bun, upd_fam, cs] at O | simp only [sel, rst, List.cons_append, List.nil_append, World.size_alloc, size_ext, World.size_setCell, size_setMap, World.size_drew, size_drewN, upd, List.set_cons_zero, List.set_cons_succ, if_true, if_false, reduceIte, not_false_eq_true, ne_lt0, ne_lt1, ne_lt2, ne_lt3, ne_lt4, upd_listA, upd_mapA, upd_bun, upd_fam] at O | skip)
      (try clear cs)
      (try clear v1)
      (try clear v2)
      (try clear v3)
    refine takeH (i := 0) (v := ?v1_1) rfl (by kernel_rfl) (by kernel_rfl) (by kernel_rfl) (fun _ _ _ h => h) (by rfl) ?y1_1 (O.sel [false]) ?r1_1
    case y1_1 =>
      intro WW hSw
      (go_simp) <;> (with_reducible rfl)
    case' r1_1 =>
      try simp only [Act.put, List.setIfInBounds_toArray, List.set_cons_zero, List.set_cons_succ]
    refine takeH (i := 1) (v := ?v1_2) rfl (by kernel_rfl) (by kernel_rfl) (by kernel_rfl) (fun _ _ _ h => h) (by rfl) ?y1_2 (O.sel [false]) ?r1_2
    case y1_2 =>
      intro WW hSw
      (go_simp) <;> (with_reducible rfl)
    case' r1_2 =>
      try simp only [Act.put, List.setIfInBounds_toArray, List.set_cons_zero, List.set_cons_succ]
    refine takeH (i := 2) (v := ?v1_3) rfl (by kernel_rfl) (by kernel_rfl) (by kernel_rfl) (fun _ _ _ h => h) (by rfl) ?y1_3 (O.sel [false]) ?r1_3
    case y1_3 =>
      intro WW hSw
      replace hSw : Mem _ _ WW _ := hSw
      have cs := hSw.facts
      simp only [sel, factsP, cellsP, roomP, foots_cons, foots_nil, foots_append, foot_pt, ptb, ptb_mapA, foot_mapA, factsP_mapA, foot_bun, List.append_nil, List.nil_append, List.cons_append, List.nodup_cons, List.nodup_nil, List.mem_cons, List.not_mem_nil, List.mem_singleton, List.forall_mem_cons, not_or, not_false_eq_true, and_true, true_and, or_false, false_or, forall_eq_or_imp, forall_eq, implies_true, Nat.zero_add, Nat.reduceAdd, and_assoc, upd_listA, upd_mapA, upd_bun, upd_fam, ptb_listA, factsP_listA, factsP_mapA, ptb_mapA, Nat.mul_one, factsP_bun, ptb_bun, ptb_fam, factsP_fam, entCells] at cs
      (go_simp) <;> (with_reducible rfl)
    case' r1_3 =>
      try simp only [Act.put, List.setIfInBounds_toArray, List.set_cons_zero, List.set_cons_succ]
    refine takeH (i := 3) (v := ?v1_4) rfl (by kernel_rfl) (by kernel_rfl) (by kernel_rfl) (fun _ _ _ h => h) (by rfl) ?y1_4 (O.sel [false]) ?r1_4
    case y1_4 =>
      intro WW hSw
      (go_simp) <;> (with_reducible rfl)
    case' r1_4 =>
      try simp only [Act.put, List.setIfInBounds_toArray, List.set_cons_zero, List.set_cons_succ]
    refine takeH (i := 4) (v := ?v1_5) rfl (by kernel_rfl) (by kernel_rfl) (by kernel_rfl) (fun _ _ _ h => h) (by rfl) ?y1_5 (O.sel [false]) ?r1_5
    case y1_5 =>
      intro WW hSw
      (go_simp) <;> (with_reducible rfl)
    case' r1_5 =>
      try simp only [Act.put, List.setIfInBounds_toArray, List.set_cons_zero, List.set_cons_succ]
    refine takeH (i := 5) (v := ?v1_6) rfl (by kernel_rfl) (by kernel_rfl) (by kernel_rfl) (fun _ _ _ h => h) (by rfl) ?y1_6 (O.sel [false]) ?r1_6
    case y1_6 =>
      intro WW hSw
      replace hSw : Mem _ _ WW _ := hSw
      have cs := hSw.facts
      simp only [sel, factsP, cellsP, roomP, foots_cons, foots_nil, foots_append, foot_pt, ptb, ptb_mapA, foot_mapA, factsP_mapA, foot_bun, List.append_nil, List.nil_append, List.cons_append, List.nodup_cons, List.nodup_nil, List.mem_cons, List.not_mem_nil, List.mem_singleton, List.forall_mem_cons, not_or, not_false_eq_true, and_true, true_and, or_false, false_or, forall_eq_or_imp, forall_eq, implies_true, Nat.zero_add, Nat.reduceAdd, and_assoc, upd_listA, upd_mapA, upd_bun, upd_fam, ptb_listA, factsP_listA, factsP_mapA, ptb_mapA, Nat.mul_one, factsP_bun, ptb_bun, ptb_fam, factsP_fam, entCells] at cs
      (go_simp) <;> (with_reducible rfl)
    case' r1_6 =>
      try simp only [Act.put, List.setIfInBounds_toArray, List.set_cons_zero, List.set_cons_succ]
    refine wpAnyH_ready (rs := [6]) (by kernel_rfl) (by simp) ?_
    refine consH rfl (fun K hK => ?_) AllReadyH.nil
    have cs := O.facts
    simp only [factsP, cellsP, roomP, foots_cons, foots_nil, foots_append, foot_pt, ptb, ptb_mapA, foot_mapA, factsP_mapA, foot_bun, List.append_nil, List.nil_append, List.cons_append, List.nodup_cons, List.nodup_nil, List.mem_cons, List.not_mem_nil, List.mem_singleton, List.forall_mem_cons, not_or, not_false_eq_true, and_true, true_and, or_false, false_or, forall_eq_or_imp, forall_eq, implies_true, Nat.zero_add, Nat.reduceAdd, and_assoc, upd_listA, upd_mapA, upd_bun, upd_fam, ptb_listA, factsP_listA, factsP_mapA, ptb_mapA, Nat.mul_one, factsP_bun, ptb_bun, ptb_fam, factsP_fam, entCells] at cs
    (try clear cs)
    (try clear v1)
    (try clear v2)
    (try clear v3)
    refine entTy.if_cut (O.front1 [true] rfl) rfl rfl (q := 0) (n := m) (cap := m + 1) (k := m) (Nat.zero_add m) (by rw [HL.out]; omega) (Nat.zero_add _) rfl [] (by simp) rfl rfl ⟨rfl, fun h => absurd h (Nat.lt_irrefl 0)⟩ ?_
    intro  w1_7 O'
    (try clear O)
    have O := O'.unfront
    clear O'
    simp only [put, List.cons_append, List.nil_append] at O
    refine hK.out _ _ (O.sel [false]) (fun _ => ?_)
    clear hK K
    refine takeH (i := 7) (v := ?v1_8) rfl (by kernel_rfl) (by kernel_rfl) (by kernel_rfl) (fun _ _ _ h => h) (by rfl) ?y1_8 (O.sel [false]) ?r1_8
    case y1_8 =>
      intro WW hSw
      (go_simp) <;> (with_reducible rfl)
    case' r1_8 =>
      try simp only [Act.put, List.setIfInBounds_toArray, List.set_cons_zero, List.set_cons_succ]
    refine wpAnyH_done (by kernel_rfl) ?_ _
    skip
    have cs := O.facts
    try simp only [factsP, cellsP, roomP, foots_cons, foots_nil, foots_append, foot_pt, ptb, ptb_mapA, foot_mapA, factsP_mapA, foot_bun, List.append_nil, List.nil_append, List.cons_append, List.nodup_cons, List.nodup_nil, List.mem_cons, List.not_mem_nil, List.mem_singleton, List.forall_mem_cons, not_or, not_false_eq_true, and_true, true_and, or_false, false_or, forall_eq_or_imp, forall_eq, implies_true, Nat.zero_add, Nat.reduceAdd, and_assoc, upd_listA, upd_mapA, upd_bun, upd_fam, ptb_listA, factsP_listA, factsP_mapA, ptb_mapA, Nat.mul_one, factsP_bun, ptb_bun, ptb_fam, factsP_fam, entCells] at cs
    go_upto_region 6 with fail
    obtain ⟨w6, hrun, O6⟩ := entTy.clear_one zeroEn rfl O (by rw [HL2.out]; omega) 1 0
    rw [HL2.out] at hrun
    have cs := O.facts
    try simp only [factsP, cellsP, roomP, foots_cons, foots_nil, foots_append, foot_pt, ptb, ptb_mapA, foot_mapA, factsP_mapA, foot_bun, List.append_nil, List.nil_append, List.cons_append, List.nodup_cons, List.nodup_nil, List.mem_cons, List.not_mem_nil, List.mem_singleton, List.forall_mem_cons, not_or, not_false_eq_true, and_true, true_and, or_false, false_or, forall_eq_or_imp, forall_eq, implies_true, Nat.zero_add, Nat.reduceAdd, and_assoc, upd_listA, upd_mapA, upd_bun, upd_fam, ptb_listA, factsP_listA, factsP_mapA, ptb_mapA, Nat.mul_one, factsP_bun, ptb_bun, ptb_fam, factsP_fam, entCells] at cs
    go_wp2_with fail
    go_ret
    exact ⟨rfl, O6⟩
  · have hc2 : (c = p + 1) = False := by simp [hc1]
    go_enter Try.func31, Try.ntmps31
    skip
    have cs := O.facts
    try simp only [factsP, cellsP, roomP, foots_cons, foots_nil, foots_append, foot_pt, ptb, ptb_mapA, foot_mapA, factsP_mapA, foot_bun, List.append_nil, List.nil_append, List.cons_append, List.nodup_cons, List.nodup_nil, List.mem_cons, List.not_mem_nil, List.mem_singleton, List.forall_mem_cons, not_or, not_false_eq_true, and_true, true_and, or_false, false_or, forall_eq_or_imp, forall_eq, implies_true, Nat.zero_add, Nat.reduceAdd, and_assoc, upd_listA, upd_mapA, upd_bun, upd_fam, ptb_listA, factsP_listA, factsP_mapA, ptb_mapA, Nat.mul_one, factsP_bun, ptb_bun, ptb_fam, factsP_fam, entCells] at cs
    go_upto_region 5 with fail
    have hsrc := Lib.hid (fun W (hh : (entsA (some ⟨g, 0, none⟩) c l).holds W) => by
      have := listA_src_drop entLen hh (k := p + 1) (by rw [HL.out]; omega)
      rw [HL.out, htm] at this
      exact this)
    apply region_held_mem [false] (by kernel_rfl)
    case O => repeat' (first | (with_reducible exact O) | (with_reducible apply Mem.drew) | (with_reducible apply Mem.drewN) | (with_reducible apply Mem.ext) | (with_reducible apply Mem.alloc) | (with_reducible apply Mem.setCell) | (simp only [ptb, ptb_upd, foots_cons, List.mem_cons, World.size_alloc, size_ext, World.size_setCell, true_or, or_true, eq_self_iff_true, ptb_listA, ptb_mapA, ptb_bun, ptb_fam]))
    case' h =>
      intro wr2 O'
      (try clear O)
      have O := O'
      clear O'
      (first | simp only [sel, rst, List.cons_append, List.nil_append, World.size_alloc, size_ext, World.size_setCell, size_setMap, World.size_drew, size_drewN, upd, List.set_cons_zero, List.set_cons_succ, if_true, if_false, reduceIte, not_false_eq_true, ne_lt0, ne_lt1, ne_lt2, ne_lt3, ne_lt4, upd_listA, upd_mapA, upd_bun, upd_fam, cs] at O | simp only [sel, rst, List.cons_append, List.nil_append, World.size_alloc, size_ext, World.size_setCell, size_setMap, World.size_drew, size_drewN, upd, List.set_cons_zero, List.set_cons_succ, if_true, if_false, reduceIte, not_false_eq_true, ne_lt0, ne_lt1, ne_lt2, ne_lt3, ne_lt4, upd_listA, upd_mapA, upd_bun, upd_fam] at O | skip)
      (try clear cs)
      (try clear v1)
      (try clear v2)
      (try clear v3)
    refine takeH (i := 0) (v := ?v2_1) rfl (by kernel_rfl) (by kernel_rfl) (by kernel_rfl) (fun _ _ _ h => h) (by rfl) ?y2_1 (O.sel [false]) ?r2_1
    case y2_1 =>
      intro WW hSw
      (go_simp) <;> (with_reducible rfl)
    case' r2_1 =>
      try simp only [Act.put, List.setIfInBounds_toArray, List.set_cons_zero, List.set_cons_succ]
    refine takeH (i := 1) (v := ?v2_2) rfl (by kernel_rfl) (by kernel_rfl) (by kernel_rfl) (fun _ _ _ h => h) (by rfl) ?y2_2 (O.sel [false]) ?r2_2
    case y2_2 =>
      intro WW hSw
      (go_simp) <;> (with_reducible rfl)
    case' r2_2 =>
      try simp only [Act.put, List.setIfInBounds_toArray, List.set_cons_zero, List.set_cons_succ]
    refine takeH (i := 2) (v := ?v2_3) rfl (by kernel_rfl) (by kernel_rfl) (by kernel_rfl) (fun _ _ _ h => h) (by rfl) ?y2_3 (O.sel [false]) ?r2_3
    case y2_3 =>
      intro WW hSw
      replace hSw : Mem _ _ WW _ := hSw
      have cs := hSw.facts
      simp only [sel, factsP, cellsP, roomP, foots_cons, foots_nil, foots_append, foot_pt, ptb, ptb_mapA, foot_mapA, factsP_mapA, foot_bun, List.append_nil, List.nil_append, List.cons_append, List.nodup_cons, List.nodup_nil, List.mem_cons, List.not_mem_nil, List.mem_singleton, List.forall_mem_cons, not_or, not_false_eq_true, and_true, true_and, or_false, false_or, forall_eq_or_imp, forall_eq, implies_true, Nat.zero_add, Nat.reduceAdd, and_assoc, upd_listA, upd_mapA, upd_bun, upd_fam, ptb_listA, factsP_listA, factsP_mapA, ptb_mapA, Nat.mul_one, factsP_bun, ptb_bun, ptb_fam, factsP_fam, entCells] at cs
      (go_simp) <;> (with_reducible rfl)
    case' r2_3 =>
      try simp only [Act.put, List.setIfInBounds_toArray, List.set_cons_zero, List.set_cons_succ]
    refine takeH (i := 3) (v := ?v2_4) rfl (by kernel_rfl) (by kernel_rfl) (by kernel_rfl) (fun _ _ _ h => h) (by rfl) ?y2_4 (O.sel [false]) ?r2_4
    case y2_4 =>
      intro WW hSw
      (go_simp) <;> (with_reducible rfl)
    case' r2_4 =>
      try simp only [Act.put, List.setIfInBounds_toArray, List.set_cons_zero, List.set_cons_succ]
    refine takeH (i := 4) (v := ?v2_5) rfl (by kernel_rfl) (by kernel_rfl) (by kernel_rfl) (fun _ _ _ h => h) (by rfl) ?y2_5 (O.sel [false]) ?r2_5
    case y2_5 =>
      intro WW hSw
      (go_simp) <;> (with_reducible rfl)
    case' r2_5 =>
      try simp only [Act.put, List.setIfInBounds_toArray, List.set_cons_zero, List.set_cons_succ]
    refine takeH (i := 5) (v := ?v2_6) rfl (by kernel_rfl) (by kernel_rfl) (by kernel_rfl) (fun _ _ _ h => h) (by rfl) ?y2_6 (O.sel [false]) ?r2_6
    case y2_6 =>
      intro WW hSw
      replace hSw : Mem _ _ WW _ := hSw
      have cs := hSw.facts
      simp only [sel, factsP, cellsP, roomP, foots_cons, foots_nil, foots_append, foot_pt, ptb, ptb_mapA, foot_mapA, factsP_mapA, foot_bun, List.append_nil, List.nil_append, List.cons_append, List.nodup_cons, List.nodup_nil, List.mem_cons, List.not_mem_nil, List.mem_singleton, List.forall_mem_cons, not_or, not_false_eq_true, and_true, true_and, or_false, false_or, forall_eq_or_imp, forall_eq, implies_true, Nat.zero_add, Nat.reduceAdd, and_assoc, upd_listA, upd_mapA, upd_bun, upd_fam, ptb_listA, factsP_listA, factsP_mapA, ptb_mapA, Nat.mul_one, factsP_bun, ptb_bun, ptb_fam, factsP_fam, entCells] at cs
      (go_simp) <;> (with_reducible rfl)
    case' r2_6 =>
      try simp only [Act.put, List.setIfInBounds_toArray, List.set_cons_zero, List.set_cons_succ]
    refine wpAnyH_ready (rs := [6]) (by kernel_rfl) (by simp) ?_
    refine consH rfl (fun K hK => ?_) AllReadyH.nil
    have cs := O.facts
    simp only [factsP, cellsP, roomP, foots_cons, foots_nil, foots_append, foot_pt, ptb, ptb_mapA, foot_mapA, factsP_mapA, foot_bun, List.append_nil, List.nil_append, List.cons_append, List.nodup_cons, List.nodup_nil, List.mem_cons, List.not_mem_nil, List.mem_singleton, List.forall_mem_cons, not_or, not_false_eq_true, and_true, true_and, or_false, false_or, forall_eq_or_imp, forall_eq, implies_true, Nat.zero_add, Nat.reduceAdd, and_assoc, upd_listA, upd_mapA, upd_bun, upd_fam, ptb_listA, factsP_listA, factsP_mapA, ptb_mapA, Nat.mul_one, factsP_bun, ptb_bun, ptb_fam, factsP_fam, entCells] at cs
    (try clear cs)
    (try clear v1)
    (try clear v2)
    (try clear v3)
    refine entTy.if_cut (O.front1 [true] rfl) rfl rfl (q := 0) (n := p) (cap := c) (k := p) (Nat.zero_add p) (by rw [HL.out]; omega) (Nat.zero_add c) rfl (l.drop (p + 1)) (by rw [HLN.out]; omega) HLN.out rfl (hsrc.out _ (O.hold _ (by simp))) ?_
    intro  w2_7 O'
    (try clear O)
    have O := O'.unfront
    clear O'
    simp only [put, List.cons_append, List.nil_append] at O
    refine hK.out _ _ (O.sel [false]) (fun _ => ?_)
    clear hK K
    refine takeH (i := 7) (v := ?v2_8) rfl (by kernel_rfl) (by kernel_rfl) (by kernel_rfl) (fun _ _ _ h => h) (by rfl) ?y2_8 (O.sel [false]) ?r2_8
    case y2_8 =>
      intro WW hSw
      (go_simp) <;> (with_reducible rfl)
    case' r2_8 =>
      try simp only [Act.put, List.setIfInBounds_toArray, List.set_cons_zero, List.set_cons_succ]
    refine wpAnyH_done (by kernel_rfl) ?_ _
    have hc3 : (c = m) = False := by simp; omega
    skip
    have cs := O.facts
    try simp only [factsP, cellsP, roomP, foots_cons, foots_nil, foots_append, foot_pt, ptb, ptb_mapA, foot_mapA, factsP_mapA, foot_bun, List.append_nil, List.nil_append, List.cons_append, List.nodup_cons, List.nodup_nil, List.mem_cons, List.not_mem_nil, List.mem_singleton, List.forall_mem_cons, not_or, not_false_eq_true, and_true, true_and, or_false, false_or, forall_eq_or_imp, forall_eq, implies_true, Nat.zero_add, Nat.reduceAdd, and_assoc, upd_listA, upd_mapA, upd_bun, upd_fam, ptb_listA, factsP_listA, factsP_mapA, ptb_mapA, Nat.mul_one, factsP_bun, ptb_bun, ptb_fam, factsP_fam, entCells] at cs
    go_upto_region 6 with fail
    obtain ⟨w6, hrun, O6⟩ := entTy.clear_one zeroEn rfl O (by rw [HL2.out]; omega) (c - m) 0
    rw [HL2.out] at hrun
    have cs := O.facts
    try simp only [factsP, cellsP, roomP, foots_cons, foots_nil, foots_append, foot_pt, ptb, ptb_mapA, foot_mapA, factsP_mapA, foot_bun, List.append_nil, List.nil_append, List.cons_append, List.nodup_cons, List.nodup_nil, List.mem_cons, List.not_mem_nil, List.mem_singleton, List.forall_mem_cons, not_or, not_false_eq_true, and_true, true_and, or_false, false_or, forall_eq_or_imp, forall_eq, implies_true, Nat.zero_add, Nat.reduceAdd, and_assoc, upd_listA, upd_mapA, upd_bun, upd_fam, ptb_listA, factsP_listA, factsP_mapA, ptb_mapA, Nat.mul_one, factsP_bun, ptb_bun, ptb_fam, factsP_fam, entCells] at cs
    go_wp2_with fail
    go_ret
    exact ⟨rfl, O6⟩
theorem take_drop_put {α : Type} (l : List α) (i : Nat) (x : α) (hi : i < l.length) : (l.take (i + 1) ++ l.drop i).set i x = l.take i ++ x :: l.drop i := by
  have h1 : (l.take (i + 1)).length = i + 1 := by rw [List.length_take]; omega
  rw [List.set_append_left _ _ (by omega)]
  have h2 : (l.take (i + 1)).set i x = l.take i ++ [x] := by
    rw [List.take_succ_eq_append_getElem hi, List.set_append_right _ _ (by rw [List.length_take]; omega)]
    have : i - (l.take i).length = 0 := by rw [List.length_take]; omega
    rw [this]
    rfl
  rw [h2]
  simp
theorem grow_put {α : Type} (l : List α) (i k : Nat) (z x : α) (hi : i < l.length) (hk : k = l.length + 1 - i) : ((l.take i ++ List.replicate k z).set i x).take (i + 1) ++ l.drop i = l.take i ++ x :: l.drop i := by
  have h1 : (l.take i).length = i := by rw [List.length_take]; omega
  obtain ⟨j, rfl⟩ : ∃ j, k = j + 1 := ⟨l.length - i, by omega⟩
  rw [List.set_append_right _ _ (by omega), h1, Nat.sub_self, List.replicate_succ, List.set_cons_zero, List.take_append, h1, List.take_of_length_le (by omega), show i + 1 - i = 1 by omega]
  simp
set_option maxRecDepth 100000 in
set_option maxHeartbeats 8000000 in
theorem c_Insert (w : World) (A : Option Addr) (c i : Nat) (l : List En) (k v : ByteArray) (vb n : Nat) (hn : l.length = n) (hi : i ≤ n) (hn8 : n ≤ 1000) (h : Pre w [entsA A c l, .pt vb [.string k, .string v] 65]) :
    Calls Try.prog 30 #[.slice A n c, .int .i64 i, .slice (some ⟨vb, 0, none⟩) 1 1] w (fun e w' => ∃ A' c', e = .returned (.slice A' (n + 1) c') ∧ Mem w (foots [entsA A c l, .pt vb [.string k, .string v] 65]) w' [entsA A' c' (l.take i ++ (k, v) :: l.drop i), .pt vb [.string k, .string v] 65]) := by
  have O : Mem w (foots [entsA A c l, .pt vb [.string k, .string v] 65]) w [entsA A c l, .pt vb [.string k, .string v] 65] := h
  have hvb : ∀ g, A = some ⟨g, 0, none⟩ → vb ≠ g := by
    intro g hg e
    have := h.nodup
    rw [hg, e] at this
    simp [foots_cons, foot_listA, afoot, foot_pt] at this
  have hcap : n ≤ c ∧ c ≤ maxLen ∧ (0 < n → ∃ g, A = some ⟨g, 0, none⟩) := by
    cases A with
    | none =>
      obtain ⟨h1, h2⟩ := listA_none (O.hold (entsA none c l) (by simp))
      subst h1 h2
      simp at hn
      subst hn
      exact ⟨Nat.le_refl _, by unfold maxLen; omega, fun h => absurd h (Nat.lt_irrefl 0)⟩
    | some a =>
      obtain ⟨g', cur, ha, _, hlc, hmx, _, _⟩ := listA_some (O.hold (entsA (some a) c l) (by simp))
      exact ⟨by omega, hmx, fun _ => ⟨g', by rw [ha]⟩⟩
  generalize foots [entsA A c l, .pt vb [.string k, .string v] 65] = fp at O ⊢
  clear h
  obtain ⟨hnc, hmx, hA⟩ := hcap
  have hmx2 : c ≤ 9223372036854775807 := by unfold maxLen at hmx; omega
  have hii : (i : Int) ≤ n := by omega
  have HN := Lib.hid hn
  clear hn
  by_cases hin : i = n
  · subst hin
    have e1 : l.take i = l := List.take_of_length_le (by rw [HN.out]; exact Nat.le_refl _)
    have e2 : l.drop i = [] := List.drop_eq_nil_of_le (by rw [HN.out]; exact Nat.le_refl _)
    rw [e1, e2]
    clear hA hvb e1 e2
    have hnz : i = 0 ∨ ∃ g, A = some ⟨g, 0, none⟩ := by
      cases A with
      | none => have := (listA_none (O.hold (entsA none c l) (by simp))).1; have h2 := HN.out; rw [this] at h2; exact .inl h2.symm
      | some a => obtain ⟨g', cur, ha, _⟩ := listA_some (O.hold (entsA (some a) c l) (by simp)); exact .inr ⟨g', by rw [ha]⟩
    have hic : (i : Int) ≤ c := by omega
    skip
    rcases hnz with rfl | ⟨g, rfl⟩
    · cases A with
      | none =>
        go_enter Try.func30, Try.ntmps30
        have cs := O.facts
        try simp only [factsP, cellsP, roomP, foots_cons, foots_nil, foots_append, foot_pt, ptb, ptb_mapA, foot_mapA, factsP_mapA, foot_bun, List.append_nil, List.nil_append, List.cons_append, List.nodup_cons, List.nodup_nil, List.mem_cons, List.not_mem_nil, List.mem_singleton, List.forall_mem_cons, not_or, not_false_eq_true, and_true, true_and, or_false, false_or, forall_eq_or_imp, forall_eq, implies_true, Nat.zero_add, Nat.reduceAdd, and_assoc, upd_listA, upd_mapA, upd_bun, upd_fam, ptb_listA, factsP_listA, factsP_mapA, ptb_mapA, Nat.mul_one, factsP_bun, ptb_bun, ptb_fam, factsP_fam, entCells] at cs
        go_wp2_with ((at_builtin; refine entTy.wl_app O rfl rfl HN.out rfl [(k, v)] rfl rfl (src_one (x := ((k, v) : En)) (fun _ => rfl) O (List.mem_cons_of_mem _ (List.mem_cons_self ..))) (by rw [HN.out]; simp) ?_; intro A1 c1 w4 O4))
        go_ret
        exact ⟨A1, c1, by simp [HN.out], O4⟩
      | some a =>
        obtain ⟨g', cur, rfl, _⟩ := listA_some (O.hold (entsA (some a) c l) (by simp))
        go_enter Try.func30, Try.ntmps30
        have cs := O.facts
        try simp only [factsP, cellsP, roomP, foots_cons, foots_nil, foots_append, foot_pt, ptb, ptb_mapA, foot_mapA, factsP_mapA, foot_bun, List.append_nil, List.nil_append, List.cons_append, List.nodup_cons, List.nodup_nil, List.mem_cons, List.not_mem_nil, List.mem_singleton, List.forall_mem_cons, not_or, not_false_eq_true, and_true, true_and, or_false, false_or, forall_eq_or_imp, forall_eq, implies_true, Nat.zero_add, Nat.reduceAdd, and_assoc, upd_listA, upd_mapA, upd_bun, upd_fam, ptb_listA, factsP_listA, factsP_mapA, ptb_mapA, Nat.mul_one, factsP_bun, ptb_bun, ptb_fam, factsP_fam, entCells] at cs
        go_wp2_with ((at_builtin; refine entTy.wl_app O rfl rfl HN.out rfl [(k, v)] rfl rfl (src_one (x := ((k, v) : En)) (fun _ => rfl) O (List.mem_cons_of_mem _ (List.mem_cons_self ..))) (by rw [HN.out]; simp) ?_; intro A1 c1 w4 O4))
        all_goals
          go_ret
          exact ⟨A1, c1, by simp [HN.out], O4⟩
    · go_enter Try.func30, Try.ntmps30
      have cs := O.facts
      try simp only [factsP, cellsP, roomP, foots_cons, foots_nil, foots_append, foot_pt, ptb, ptb_mapA, foot_mapA, factsP_mapA, foot_bun, List.append_nil, List.nil_append, List.cons_append, List.nodup_cons, List.nodup_nil, List.mem_cons, List.not_mem_nil, List.mem_singleton, List.forall_mem_cons, not_or, not_false_eq_true, and_true, true_and, or_false, false_or, forall_eq_or_imp, forall_eq, implies_true, Nat.zero_add, Nat.reduceAdd, and_assoc, upd_listA, upd_mapA, upd_bun, upd_fam, ptb_listA, factsP_listA, factsP_mapA, ptb_mapA, Nat.mul_one, factsP_bun, ptb_bun, ptb_fam, factsP_fam, entCells] at cs
      go_wp2_with ((at_builtin; refine entTy.wl_app O rfl rfl HN.out rfl [(k, v)] rfl rfl (src_one (x := ((k, v) : En)) (fun _ => rfl) O (List.mem_cons_of_mem _ (List.mem_cons_self ..))) (by rw [HN.out]; simp; omega) ?_; intro A1 c1 w4 O4))
      all_goals
        go_ret
        exact ⟨A1, c1, by simp [HN.out], O4⟩
  · have hlt : i < n := by omega
    obtain ⟨g, rfl⟩ := hA (by omega)
    have hvg := hvb g rfl
    clear hvb hA
    have hlti : (i : Int) < n := by omega
    have hne : ((i : Int) == (n : Int)) = false := by simp; omega
    have hic : (i : Int) ≤ c := by omega
    have hi1 : (i : Int) + 1 ≤ (n : Int) + 1 := by omega
    have hin1 : (i : Int) ≤ (n : Int) + 1 := by omega
    have hi1c : (i : Int) + 1 ≤ c := by omega
    have hi10 : (0 : Int) ≤ (i : Int) + 1 := by omega
    have htn : ((i : Int) + 1).toNat = i + 1 := by omega
    have hci : (c = i) = False := by simp; omega
    have hw1 : IntKind.i64.wrap ((i : Int) + 1) = (i : Int) + 1 := by rw [IntKind.wrap_i64]; omega
    have hnn : (n : Int) ≤ (n : Int) + 1 := by omega
    have hi0 : (0 : Int) ≤ (n : Int) + 1 - (i : Int) := by omega
    by_cases hroom : n + 1 ≤ c
    · have hrm : (n : Int) + 1 ≤ c := by omega
      have hci1 : (c = i + 1) = False := by simp; omega
      have hov : ∀ lb cb, (callFunc 45 #[.slice (some ⟨vb, 0, none⟩) 1 1, .slice (some ⟨g, (i + 1) * 2, none⟩) lb cb]).run Try.prog w = .ok (.value (.bool false)) w := fun lb cb => by
        obtain ⟨cur, hcur, _⟩ : ∃ cur, w.heap[g]? = some (.cells cur 65 (0, 0)) ∧ cur.size = c * 2 := by
          obtain ⟨g', cur, hg, hh, _, _, h3, _⟩ := listA_some (O.hold (entsA (some ⟨g, 0, none⟩) c l) (by simp))
          injection hg with hg
          subst hg
          exact ⟨cur, hh, h3⟩
        have hvbh : w.heap[vb]? = some (.cells #[.string k, .string v] 65 (0, 0)) := O.hold (.pt vb [.string k, .string v] 65) (by simp)
        rw [run_callFunc_extern (P := Try.prog) (f := 45) rfl (by kernel_rfl) (by kernel_rfl) (by kernel_rfl) (e := Extern.SlicesOverlaps.overlaps #[33, 33] #[4]) (by kernel_rfl),
          Lib.run_overlaps_apart w 33 4 65 Try.underlying33 2 (fun w => by kernel_rfl) ⟨vb, 0, none⟩ ⟨g, (i + 1) * 2, none⟩ 1 1 lb cb hvg 65 65 2 (c * 2) (by simp [World.shape?, hvbh]) (by simp [World.shape?, hcur, *]) (by omega) (frozen_of_heap hvbh) (frozen_of_heap hvbh)]
        rfl
      have HSR := Lib.hid (fun W (hh : (entsA (some ⟨g, 0, none⟩) c l).holds W) => by
        have := (listA_src_drop entLen hh (k := i) (by rw [HN.out]; omega))
        rw [HN.out] at this
        exact this.cells (by omega))
      have HDL := Lib.hid (show (l.drop i).length = n - i by rw [List.length_drop, HN.out])
      have HTP := Lib.hid (take_drop_put l i ((k, v) : En) (by rw [HN.out]; exact hlt))
      have HL1 := Lib.hid (show (l.take (i + 1) ++ l.drop i).length = n + 1 by rw [List.length_append, List.length_take, List.length_drop, HN.out]; omega)
      go_enter Try.func30, Try.ntmps30
      skip
      have cs := O.facts
      try simp only [factsP, cellsP, roomP, foots_cons, foots_nil, foots_append, foot_pt, ptb, ptb_mapA, foot_mapA, factsP_mapA, foot_bun, List.append_nil, List.nil_append, List.cons_append, List.nodup_cons, List.nodup_nil, List.mem_cons, List.not_mem_nil, List.mem_singleton, List.forall_mem_cons, not_or, not_false_eq_true, and_true, true_and, or_false, false_or, forall_eq_or_imp, forall_eq, implies_true, Nat.zero_add, Nat.reduceAdd, and_assoc, upd_listA, upd_mapA, upd_bun, upd_fam, ptb_listA, factsP_listA, factsP_mapA, ptb_mapA, Nat.mul_one, factsP_bun, ptb_bun, ptb_fam, factsP_fam, entCells] at cs
      go_upto_region 15 with fail
      apply region_held_mem [] (by kernel_rfl)
      case O => repeat' (first | (with_reducible exact O) | (with_reducible apply Mem.drew) | (with_reducible apply Mem.drewN) | (with_reducible apply Mem.ext) | (with_reducible apply Mem.alloc) | (with_reducible apply Mem.setCell) | (simp only [ptb, ptb_upd, foots_cons, List.mem_cons, World.size_alloc, size_ext, World.size_setCell, true_or, or_true, eq_self_iff_true, ptb_listA, ptb_mapA, ptb_bun, ptb_fam]))
      case' h =>
        intro wr3 O'
        (try clear O)
        have O := O'
        clear O'
        (first | simp only [sel, rst, List.cons_append, List.nil_append, World.size_alloc, size_ext, World.size_setCell, size_setMap, World.size_drew, size_drewN, upd, List.set_cons_zero, List.set_cons_succ, if_true, if_false, reduceIte, not_false_eq_true, ne_lt0, ne_lt1, ne_lt2, ne_lt3, ne_lt4, upd_listA, upd_mapA, upd_bun, upd_fam, cs] at O | simp only [sel, rst, List.cons_append, List.nil_append, World.size_alloc, size_ext, World.size_setCell, size_setMap, World.size_drew, size_drewN, upd, List.set_cons_zero, List.set_cons_succ, if_true, if_false, reduceIte, not_false_eq_true, ne_lt0, ne_lt1, ne_lt2, ne_lt3, ne_lt4, upd_listA, upd_mapA, upd_bun, upd_fam] at O | skip)
        (try clear cs)
        (try clear v1)
        (try clear v2)
        (try clear v3)
      refine takeH (i := 0) (v := ?v3_1) rfl (by kernel_rfl) (by kernel_rfl) (by kernel_rfl) (fun _ _ _ h => h) (by rfl) ?y3_1 (O.sel []) ?r3_1
      case y3_1 =>
        intro WW hSw
        (go_simp) <;> (with_reducible rfl)
      case' r3_1 =>
        try simp only [Act.put, List.setIfInBounds_toArray, List.set_cons_zero, List.set_cons_succ]
      refine takeH (i := 1) (v := ?v3_2) rfl (by kernel_rfl) (by kernel_rfl) (by kernel_rfl) (fun _ _ _ h => h) (by rfl) ?y3_2 (O.sel []) ?r3_2
      case y3_2 =>
        intro WW hSw
        (go_simp) <;> (with_reducible rfl)
      case' r3_2 =>
        try simp only [Act.put, List.setIfInBounds_toArray, List.set_cons_zero, List.set_cons_succ]
      refine takeH (i := 2) (v := ?v3_3) rfl (by kernel_rfl) (by kernel_rfl) (by kernel_rfl) (fun _ _ _ h => h) (by rfl) ?y3_3 (O.sel []) ?r3_3
      case y3_3 =>
        intro WW hSw
        (go_simp) <;> (with_reducible rfl)
      case' r3_3 =>
        try simp only [Act.put, List.setIfInBounds_toArray, List.set_cons_zero, List.set_cons_succ]
      refine takeH (i := 3) (v := ?v3_4) rfl (by kernel_rfl) (by kernel_rfl) (by kernel_rfl) (fun _ _ _ h => h) (by rfl) ?y3_4 (O.sel []) ?r3_4
      case y3_4 =>
        intro WW hSw
        (go_simp) <;> (with_reducible rfl)
      case' r3_4 =>
        try simp only [Act.put, List.setIfInBounds_toArray, List.set_cons_zero, List.set_cons_succ]
      refine takeH (i := 4) (v := ?v3_5) rfl (by kernel_rfl) (by kernel_rfl) (by kernel_rfl) (fun _ _ _ h => h) (by rfl) ?y3_5 (O.sel []) ?r3_5
      case y3_5 =>
        intro WW hSw
        replace hSw : Mem _ _ WW _ := hSw
        have cs := hSw.facts
        simp only [sel, factsP, cellsP, roomP, foots_cons, foots_nil, foots_append, foot_pt, ptb, ptb_mapA, foot_mapA, factsP_mapA, foot_bun, List.append_nil, List.nil_append, List.cons_append, List.nodup_cons, List.nodup_nil, List.mem_cons, List.not_mem_nil, List.mem_singleton, List.forall_mem_cons, not_or, not_false_eq_true, and_true, true_and, or_false, false_or, forall_eq_or_imp, forall_eq, implies_true, Nat.zero_add, Nat.reduceAdd, and_assoc, upd_listA, upd_mapA, upd_bun, upd_fam, ptb_listA, factsP_listA, factsP_mapA, ptb_mapA, Nat.mul_one, factsP_bun, ptb_bun, ptb_fam, factsP_fam, entCells] at cs
        (go_simp) <;> (with_reducible rfl)
      case' r3_5 =>
        try simp only [Act.put, List.setIfInBounds_toArray, List.set_cons_zero, List.set_cons_succ]
      refine takeH (i := 5) (v := ?v3_6) rfl (by kernel_rfl) (by kernel_rfl) (by kernel_rfl) (fun _ _ _ h => h) (by rfl) ?y3_6 (O.sel []) ?r3_6
      case y3_6 =>
        intro WW hSw
        (go_simp) <;> (with_reducible rfl)
      case' r3_6 =>
        try simp only [Act.put, List.setIfInBounds_toArray, List.set_cons_zero, List.set_cons_succ]
      refine takeH (i := 6) (v := ?v3_7) rfl (by kernel_rfl) (by kernel_rfl) (by kernel_rfl) (fun _ _ _ h => h) (by rfl) ?y3_7 (O.sel []) ?r3_7
      case y3_7 =>
        intro WW hSw
        (go_simp) <;> (with_reducible rfl)
      case' r3_7 =>
        try simp only [Act.put, List.setIfInBounds_toArray, List.set_cons_zero, List.set_cons_succ]
      refine takeH (i := 7) (v := ?v3_8) rfl (by kernel_rfl) (by kernel_rfl) (by kernel_rfl) (fun _ _ _ h => h) (by rfl) ?y3_8 (O.sel []) ?r3_8
      case y3_8 =>
        intro WW hSw
        replace hSw : Mem _ _ WW _ := hSw
        have cs := hSw.facts
        simp only [sel, factsP, cellsP, roomP, foots_cons, foots_nil, foots_append, foot_pt, ptb, ptb_mapA, foot_mapA, factsP_mapA, foot_bun, List.append_nil, List.nil_append, List.cons_append, List.nodup_cons, List.nodup_nil, List.mem_cons, List.not_mem_nil, List.mem_singleton, List.forall_mem_cons, not_or, not_false_eq_true, and_true, true_and, or_false, false_or, forall_eq_or_imp, forall_eq, implies_true, Nat.zero_add, Nat.reduceAdd, and_assoc, upd_listA, upd_mapA, upd_bun, upd_fam, ptb_listA, factsP_listA, factsP_mapA, ptb_mapA, Nat.mul_one, factsP_bun, ptb_bun, ptb_fam, factsP_fam, entCells] at cs
        (go_simp) <;> (with_reducible rfl)
      case' r3_8 =>
        try simp only [Act.put, List.setIfInBounds_toArray, List.set_cons_zero, List.set_cons_succ]
      refine wpAnyH_ready (rs := [8]) (by kernel_rfl) (by simp) ?_
      refine consH rfl (fun K hK => ?_) AllReadyH.nil
      have cs := O.facts
      simp only [factsP, cellsP, roomP, foots_cons, foots_nil, foots_append, foot_pt, ptb, ptb_mapA, foot_mapA, factsP_mapA, foot_bun, List.append_nil, List.nil_append, List.cons_append, List.nodup_cons, List.nodup_nil, List.mem_cons, List.not_mem_nil, List.mem_singleton, List.forall_mem_cons, not_or, not_false_eq_true, and_true, true_and, or_false, false_or, forall_eq_or_imp, forall_eq, implies_true, Nat.zero_add, Nat.reduceAdd, and_assoc, upd_listA, upd_mapA, upd_bun, upd_fam, ptb_listA, factsP_listA, factsP_mapA, ptb_mapA, Nat.mul_one, factsP_bun, ptb_bun, ptb_fam, factsP_fam, entCells] at cs
      (try clear cs)
      (try clear v1)
      (try clear v2)
      (try clear v3)
      refine entTy.if_copy_tail (O.front1 [true] rfl) rfl rfl (k := i + 1) rfl rfl rfl (by rw [HN.out]; omega) (l.drop i) (by rw [HDL.out]; omega) (by rw [HDL.out]; simp only [Nat.min_def]; split <;> omega) (fun _ => HSR.out _ (O.hold _ (by simp))) ?_
      intro  w3_9 O'
      (try clear O)
      have O := O'.unfront
      clear O'
      simp only [put, List.cons_append, List.nil_append] at O
      refine hK.out _ _ (O.sel []) (fun _ => ?_)
      clear hK K
      refine wpAnyH_done (by kernel_rfl) ?_ _
      have cs := O.facts
      try simp only [factsP, cellsP, roomP, foots_cons, foots_nil, foots_append, foot_pt, ptb, ptb_mapA, foot_mapA, factsP_mapA, foot_bun, List.append_nil, List.nil_append, List.cons_append, List.nodup_cons, List.nodup_nil, List.mem_cons, List.not_mem_nil, List.mem_singleton, List.forall_mem_cons, not_or, not_false_eq_true, and_true, true_and, or_false, false_or, forall_eq_or_imp, forall_eq, implies_true, Nat.zero_add, Nat.reduceAdd, and_assoc, upd_listA, upd_mapA, upd_bun, upd_fam, ptb_listA, factsP_listA, factsP_mapA, ptb_mapA, Nat.mul_one, factsP_bun, ptb_bun, ptb_fam, factsP_fam, entCells] at cs
      go_upto_region 16 with fail
      obtain ⟨w6, hrun, O6⟩ := entTy.copy_one O (k := i) (dn := n + 1 - i) (m := 1) (ab := ⟨vb, 0, none⟩) (by rw [HL1.out]; omega) ((k, v) : En) (by simp only [Nat.min_def]; split <;> omega) (fun j u hu => by rw [add_none', Nat.zero_add]; exact O.ptCell (List.mem_cons_of_mem _ (List.mem_cons_self ..)) hu)
      have cs := O.facts
      try simp only [factsP, cellsP, roomP, foots_cons, foots_nil, foots_append, foot_pt, ptb, ptb_mapA, foot_mapA, factsP_mapA, foot_bun, List.append_nil, List.nil_append, List.cons_append, List.nodup_cons, List.nodup_nil, List.mem_cons, List.not_mem_nil, List.mem_singleton, List.forall_mem_cons, not_or, not_false_eq_true, and_true, true_and, or_false, false_or, forall_eq_or_imp, forall_eq, implies_true, Nat.zero_add, Nat.reduceAdd, and_assoc, upd_listA, upd_mapA, upd_bun, upd_fam, ptb_listA, factsP_listA, factsP_mapA, ptb_mapA, Nat.mul_one, factsP_bun, ptb_bun, ptb_fam, factsP_fam, entCells] at cs
      go_wp2_with ((at_builtin; refine wl_copy rfl rfl rfl rfl (hrun _ _ _ _) ?_))
      go_ret
      rw [HTP.out] at O6
      exact ⟨_, c, rfl, O6⟩
    · obtain rfl : c = n := by omega
      have hrm : (c : Int) < (c : Int) + 1 := by omega
      have hkk : (c : Int) + 1 - (i : Int) = ((c + 1 - i : Nat) : Int) := by omega
      have hsum : i + (c + 1 - i) = c + 1 := by omega
      have HSR := Lib.hid (fun W (hh : (entsA (some ⟨g, 0, none⟩) c l).holds W) => by
        have := (listA_src_drop entLen hh (k := i) (by rw [HN.out]; omega))
        rw [HN.out] at this
        exact this.cells (by omega))
      have HDL := Lib.hid (show (l.drop i).length = c - i by rw [List.length_drop, HN.out])
      have HTL := Lib.hid (show (l.take i).length = i by rw [List.length_take, HN.out]; omega)
      have HTP := Lib.hid (grow_put l i (c + 1 - i) ((.empty, .empty) : En) ((k, v) : En) (by rw [HN.out]; exact hlt) (by rw [HN.out]))
      obtain ⟨G, w2, hgr, hG1, hG2, O2⟩ := entTy.grow_zeros O (i := i) (sc := c) (k := c + 1 - i) (it := 3) Try.underlying3 (l.take i) HTL.out (a := ⟨g, 0, none⟩) (fun hp => by
        have := listA_src_take entLen (O.hold (entsA (some ⟨g, 0, none⟩) c l) (by simp)) (k := i) (by rw [HN.out]; omega)
        exact this.cells hp) (by omega) (by omega) (by omega)
      rw [hsum] at hgr hG1
      have hgr2 : ∀ ty, (Builtin.append_ #[33, 3] ty #[.slice (some ⟨g, 0, none⟩) i c, .int .i64 ((c : Int) + 1 - (i : Int))]).run Try.prog w = .ok (.slice (some ⟨w.heap.size, 0, none⟩) (c + 1) G) w2 := fun ty => by rw [hkk]; exact hgr ty
      clear hgr hkk
      have HLR := Lib.hid (show (l.take i ++ List.replicate (c + 1 - i) ((.empty, .empty) : En)).length = c + 1 by rw [List.length_append, HTL.out, List.length_replicate]; omega)
      have hG3 : G ≤ 9223372036854775807 := by unfold maxLen at hG2; omega
      generalize w.heap.size = N at *
      have hiG : (i : Int) ≤ G := by omega
      have hi1G : (i : Int) + 1 ≤ G := by omega
      have hc1G : (c : Int) + 1 ≤ G := by omega
      have hGi : (G = i) = False := by simp; omega
      have hGi1 : (G = i + 1) = False := by simp; omega
      obtain ⟨w3, hrun, O3⟩ := entTy.copy_one O2 (k := i) (dn := c + 1 - i) (m := 1) (ab := ⟨vb, 0, none⟩) (by rw [HLR.out]; omega) ((k, v) : En) (by simp only [Nat.min_def]; split <;> omega) (fun j u hu => by rw [add_none', Nat.zero_add]; exact O2.ptCell (List.mem_cons_of_mem _ (List.mem_cons_of_mem _ (List.mem_cons_self ..))) hu)
      have HLS := Lib.hid (show ((l.take i ++ List.replicate (c + 1 - i) ((.empty, .empty) : En)).set i (k, v)).length = c + 1 by rw [List.length_set]; exact HLR.out)
      go_enter Try.func30, Try.ntmps30
      skip
      go_upto_region 11 with (first | (at_builtin; refine wl_appz rfl rfl rfl rfl (hgr2 _) ?_) | (at_builtin; refine wl_copy rfl rfl rfl rfl (hrun _ _ _ _) ?_))
      clear O O2
      have O := O3
      clear O3
      apply region_held_mem [] (by kernel_rfl)
      case O => repeat' (first | (with_reducible exact O) | (with_reducible apply Mem.drew) | (with_reducible apply Mem.drewN) | (with_reducible apply Mem.ext) | (with_reducible apply Mem.alloc) | (with_reducible apply Mem.setCell) | (simp only [ptb, ptb_upd, foots_cons, List.mem_cons, World.size_alloc, size_ext, World.size_setCell, true_or, or_true, eq_self_iff_true, ptb_listA, ptb_mapA, ptb_bun, ptb_fam]))
      case' h =>
        intro wr4 O'
        (try clear O)
        have O := O'
        clear O'
        (first | simp only [sel, rst, List.cons_append, List.nil_append, World.size_alloc, size_ext, World.size_setCell, size_setMap, World.size_drew, size_drewN, upd, List.set_cons_zero, List.set_cons_succ, if_true, if_false, reduceIte, not_false_eq_true, ne_lt0, ne_lt1, ne_lt2, ne_lt3, ne_lt4, upd_listA, upd_mapA, upd_bun, upd_fam, cs] at O | simp only [sel, rst, List.cons_append, List.nil_append, World.size_alloc, size_ext, World.size_setCell, size_setMap, World.size_drew, size_drewN, upd, List.set_cons_zero, List.set_cons_succ, if_true, if_false, reduceIte, not_false_eq_true, ne_lt0, ne_lt1, ne_lt2, ne_lt3, ne_lt4, upd_listA, upd_mapA, upd_bun, upd_fam] at O | skip)
        (try clear cs)
        (try clear v1)
        (try clear v2)
        (try clear v3)
      refine takeH (i := 0) (v := ?v4_1) rfl (by kernel_rfl) (by kernel_rfl) (by kernel_rfl) (fun _ _ _ h => h) (by rfl) ?y4_1 (O.sel []) ?r4_1
      case y4_1 =>
        intro WW hSw
        (go_simp) <;> (with_reducible rfl)
      case' r4_1 =>
        try simp only [Act.put, List.setIfInBounds_toArray, List.set_cons_zero, List.set_cons_succ]
      refine takeH (i := 1) (v := ?v4_2) rfl (by kernel_rfl) (by kernel_rfl) (by kernel_rfl) (fun _ _ _ h => h) (by rfl) ?y4_2 (O.sel []) ?r4_2
      case y4_2 =>
        intro WW hSw
        (go_simp) <;> (with_reducible rfl)
      case' r4_2 =>
        try simp only [Act.put, List.setIfInBounds_toArray, List.set_cons_zero, List.set_cons_succ]
      refine takeH (i := 2) (v := ?v4_3) rfl (by kernel_rfl) (by kernel_rfl) (by kernel_rfl) (fun _ _ _ h => h) (by rfl) ?y4_3 (O.sel []) ?r4_3
      case y4_3 =>
        intro WW hSw
        (go_simp) <;> (with_reducible rfl)
      case' r4_3 =>
        try simp only [Act.put, List.setIfInBounds_toArray, List.set_cons_zero, List.set_cons_succ]
      refine takeH (i := 3) (v := ?v4_4) rfl (by kernel_rfl) (by kernel_rfl) (by kernel_rfl) (fun _ _ _ h => h) (by rfl) ?y4_4 (O.sel []) ?r4_4
      case y4_4 =>
        intro WW hSw
        (go_simp) <;> (with_reducible rfl)
      case' r4_4 =>
        try simp only [Act.put, List.setIfInBounds_toArray, List.set_cons_zero, List.set_cons_succ]
      refine takeH (i := 4) (v := ?v4_5) rfl (by kernel_rfl) (by kernel_rfl) (by kernel_rfl) (fun _ _ _ h => h) (by rfl) ?y4_5 (O.sel []) ?r4_5
      case y4_5 =>
        intro WW hSw
        replace hSw : Mem _ _ WW _ := hSw
        have cs := hSw.facts
        simp only [sel, factsP, cellsP, roomP, foots_cons, foots_nil, foots_append, foot_pt, ptb, ptb_mapA, foot_mapA, factsP_mapA, foot_bun, List.append_nil, List.nil_append, List.cons_append, List.nodup_cons, List.nodup_nil, List.mem_cons, List.not_mem_nil, List.mem_singleton, List.forall_mem_cons, not_or, not_false_eq_true, and_true, true_and, or_false, false_or, forall_eq_or_imp, forall_eq, implies_true, Nat.zero_add, Nat.reduceAdd, and_assoc, upd_listA, upd_mapA, upd_bun, upd_fam, ptb_listA, factsP_listA, factsP_mapA, ptb_mapA, Nat.mul_one, factsP_bun, ptb_bun, ptb_fam, factsP_fam, entCells] at cs
        (go_simp) <;> (with_reducible rfl)
      case' r4_5 =>
        try simp only [Act.put, List.setIfInBounds_toArray, List.set_cons_zero, List.set_cons_succ]
      refine takeH (i := 5) (v := ?v4_6) rfl (by kernel_rfl) (by kernel_rfl) (by kernel_rfl) (fun _ _ _ h => h) (by rfl) ?y4_6 (O.sel []) ?r4_6
      case y4_6 =>
        intro WW hSw
        (go_simp) <;> (with_reducible rfl)
      case' r4_6 =>
        try simp only [Act.put, List.setIfInBounds_toArray, List.set_cons_zero, List.set_cons_succ]
      refine takeH (i := 6) (v := ?v4_7) rfl (by kernel_rfl) (by kernel_rfl) (by kernel_rfl) (fun _ _ _ h => h) (by rfl) ?y4_7 (O.sel []) ?r4_7
      case y4_7 =>
        intro WW hSw
        (go_simp) <;> (with_reducible rfl)
      case' r4_7 =>
        try simp only [Act.put, List.setIfInBounds_toArray, List.set_cons_zero, List.set_cons_succ]
      refine takeH (i := 7) (v := ?v4_8) rfl (by kernel_rfl) (by kernel_rfl) (by kernel_rfl) (fun _ _ _ h => h) (by rfl) ?y4_8 (O.sel []) ?r4_8
      case y4_8 =>
        intro WW hSw
        replace hSw : Mem _ _ WW _ := hSw
        have cs := hSw.facts
        simp only [sel, factsP, cellsP, roomP, foots_cons, foots_nil, foots_append, foot_pt, ptb, ptb_mapA, foot_mapA, factsP_mapA, foot_bun, List.append_nil, List.nil_append, List.cons_append, List.nodup_cons, List.nodup_nil, List.mem_cons, List.not_mem_nil, List.mem_singleton, List.forall_mem_cons, not_or, not_false_eq_true, and_true, true_and, or_false, false_or, forall_eq_or_imp, forall_eq, implies_true, Nat.zero_add, Nat.reduceAdd, and_assoc, upd_listA, upd_mapA, upd_bun, upd_fam, ptb_listA, factsP_listA, factsP_mapA, ptb_mapA, Nat.mul_one, factsP_bun, ptb_bun, ptb_fam, factsP_fam, entCells] at cs
        (go_simp) <;> (with_reducible rfl)
      case' r4_8 =>
        try simp only [Act.put, List.setIfInBounds_toArray, List.set_cons_zero, List.set_cons_succ]
      refine wpAnyH_ready (rs := [8]) (by kernel_rfl) (by simp) ?_
      refine consH rfl (fun K hK => ?_) AllReadyH.nil
      have cs := O.facts
      simp only [factsP, cellsP, roomP, foots_cons, foots_nil, foots_append, foot_pt, ptb, ptb_mapA, foot_mapA, factsP_mapA, foot_bun, List.append_nil, List.nil_append, List.cons_append, List.nodup_cons, List.nodup_nil, List.mem_cons, List.not_mem_nil, List.mem_singleton, List.forall_mem_cons, not_or, not_false_eq_true, and_true, true_and, or_false, false_or, forall_eq_or_imp, forall_eq, implies_true, Nat.zero_add, Nat.reduceAdd, and_assoc, upd_listA, upd_mapA, upd_bun, upd_fam, ptb_listA, factsP_listA, factsP_mapA, ptb_mapA, Nat.mul_one, factsP_bun, ptb_bun, ptb_fam, factsP_fam, entCells] at cs
      (try clear cs)
      (try clear v1)
      (try clear v2)
      (try clear v3)
      refine entTy.if_copy_tail (O.front1 [true] rfl) rfl rfl (k := i + 1) rfl rfl rfl (by rw [HLS.out]; omega) (l.drop i) (by rw [HDL.out]; omega) (by rw [HDL.out]; simp only [Nat.min_def]; split <;> omega) (fun _ => HSR.out _ (O.hold _ (by simp))) ?_
      intro  w4_9 O'
      (try clear O)
      have O := O'.unfront
      clear O'
      simp only [put, List.cons_append, List.nil_append] at O
      refine hK.out _ _ (O.sel []) (fun _ => ?_)
      clear hK K
      refine wpAnyH_done (by kernel_rfl) ?_ _
      rw [HTP.out] at O
      have cs := O.facts
      try simp only [factsP, cellsP, roomP, foots_cons, foots_nil, foots_append, foot_pt, ptb, ptb_mapA, foot_mapA, factsP_mapA, foot_bun, List.append_nil, List.nil_append, List.cons_append, List.nodup_cons, List.nodup_nil, List.mem_cons, List.not_mem_nil, List.mem_singleton, List.forall_mem_cons, not_or, not_false_eq_true, and_true, true_and, or_false, false_or, forall_eq_or_imp, forall_eq, implies_true, Nat.zero_add, Nat.reduceAdd, and_assoc, upd_listA, upd_mapA, upd_bun, upd_fam, ptb_listA, factsP_listA, factsP_mapA, ptb_mapA, Nat.mul_one, factsP_bun, ptb_bun, ptb_fam, factsP_fam, entCells] at cs
      go_wp2_with fail
      go_ret
      exact ⟨_, G, rfl, O.sel [true, false, true]⟩
end Go.Proofs.Ytomcekjhehceoaa
