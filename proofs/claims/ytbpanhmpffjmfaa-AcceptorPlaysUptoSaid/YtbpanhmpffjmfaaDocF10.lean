/- WALKS: the document's Forget of an acceptor. -/
import Derived.Test.YtbpanhmpffjmfaaRow10
set_option linter.unusedVariables false
set_option linter.unusedSimpArgs false
namespace Go.Proofs.Ytbpanhmpffjmfaa
open Go.RowKit Go.Tk

set_option maxRecDepth 100000 in
set_option maxHeartbeats 8000000 in
theorem ref_Forget (w : World) (tb : Nat) (most : Int) (A : Option Addr) (c : Nat) (m : Rows10) (i : Inst) (h : Pre w (refL tb most A c m)) (hsz : m.length ≤ 4096) (hn : (keysOf m).Nodup) :
    Calls Try.prog 25 #[.pointer (some ⟨tb, 0, none⟩), i.val] w (fun e w' => e = .returned (.int .i64 (forget10 m i).1) ∧ ∃ A' c', Mem w (foots (refL tb most A c m)) w' (refL tb most A' c' (forget10 m i).2)) := by
  obtain ⟨fp, hfp⟩ : ∃ F, F = foots (refL tb most A c m) := ⟨_, rfl⟩
  have O : Mem w fp w (refL tb most A c m) := by rw [hfp]; exact h
  rw [← hfp]
  have C := Lib.hid (fun W (h : Pre W (refL tb most A c m)) => ref_Find W tb most A c m i h hsz)
  clear hfp h
  obtain ⟨v, hv⟩ : ∃ v, v = forget10 m i := ⟨_, rfl⟩
  rw [← hv]
  unfold forget10 at hv
  simp only [refL] at O
  skip
  by_cases hf : findI m i < m.length
  · obtain ⟨r, hk, hg⟩ := findI_some hf
    rw [hg] at hv
    simp only [mdel_at hn hk, List.eraseIdx_eq_take_drop_succ] at hv
    subst hv
    have hfr : findR m i = (findI m i : Int) := by simp [findR, hf]
    rw [hfr] at C
    clear hfr hg
    generalize findI m i = k at *
    simp only [Inst.val, refL] at C ⊢
    obtain ⟨g, rfl, _⟩ := listA_get rowCells_len (O.hold (listA 69 10 rowCells A c m) (by simp)) hk
    obtain ⟨g', cur, hg', _, hcap, hcap2, _⟩ := listA_some (O.hold (listA 69 10 rowCells (some ⟨g, 0, none⟩) c m) (by simp))
    unfold maxLen at hcap2
    have KK := Lib.hid hk
    clear hk hg'
    go_enter Try.func25, Try.ntmps25
    have cs := O.facts
    simp only [factsP, cellsP, roomP, foots_cons, foots_nil, foots_append, foot_pt, ptb, ptb_mapA, foot_mapA, factsP_mapA, foot_bun, List.append_nil, List.nil_append, List.cons_append, List.nodup_cons, List.nodup_nil, List.mem_cons, List.not_mem_nil, List.mem_singleton, List.forall_mem_cons, not_or, not_false_eq_true, and_true, true_and, or_false, false_or, forall_eq_or_imp, forall_eq, implies_true, Nat.zero_add, Nat.reduceAdd, and_assoc, ptb_listA, factsP_listA, refL, rowCells] at cs
    go_wp2_with fail
    first | apply Mem.atCall | apply Mem.atCode | apply Mem.atList
    case h => repeat' (first | (with_reducible exact O) | (with_reducible apply Mem.drew) | (with_reducible apply Mem.drewN) | (with_reducible apply Mem.ext) | (with_reducible apply Mem.alloc) | (with_reducible apply Mem.setCell) | (simp only [ptb, ptb_upd, foots_cons, List.mem_cons, World.size_alloc, size_ext, World.size_setCell, true_or, or_true, eq_self_iff_true]))
    case' k =>
      intro w1 O'
      (try clear O)
      have O := O'
      clear O'
      (first | simp only [sel, rst, List.cons_append, List.nil_append, World.size_alloc, size_ext, World.size_setCell, size_setMap, World.size_drew, size_drewN, upd, List.set_cons_zero, List.set_cons_succ, if_true, reduceIte, not_false_eq_true, cs] at O | simp only [sel, rst, List.cons_append, List.nil_append, World.size_alloc, size_ext, World.size_setCell, size_setMap, World.size_drew, size_drewN, upd, List.set_cons_zero, List.set_cons_succ, if_true, reduceIte, not_false_eq_true] at O | skip)
      (try clear cs)
      (try clear v1)
      (try clear v2)
      (try clear v3)
    refine (C.out w1 (O.pre [false, true, true])).mono ?_
    rintro e w2 ⟨rfl, o⟩
    replace O := O.callp [] o
    clear o
    simp only [put, List.cons_append, List.nil_append] at O
    have cs := O.facts
    simp only [factsP, cellsP, roomP, foots_cons, foots_nil, foots_append, foot_pt, ptb, ptb_mapA, foot_mapA, factsP_mapA, foot_bun, List.append_nil, List.nil_append, List.cons_append, List.nodup_cons, List.nodup_nil, List.mem_cons, List.not_mem_nil, List.mem_singleton, List.forall_mem_cons, not_or, not_false_eq_true, and_true, true_and, or_false, false_or, forall_eq_or_imp, forall_eq, implies_true, Nat.zero_add, Nat.reduceAdd, and_assoc, ptb_listA, factsP_listA, refL, rowCells] at cs
    go_upto_region 5 with fail
    first | apply Mem.atCall | apply Mem.atCode | apply Mem.atList
    case h => repeat' (first | (with_reducible exact O) | (with_reducible apply Mem.drew) | (with_reducible apply Mem.drewN) | (with_reducible apply Mem.ext) | (with_reducible apply Mem.alloc) | (with_reducible apply Mem.setCell) | (simp only [ptb, ptb_upd, foots_cons, List.mem_cons, World.size_alloc, size_ext, World.size_setCell, true_or, or_true, eq_self_iff_true]))
    case' k =>
      intro w3 O'
      (try clear O)
      have O := O'
      clear O'
      (first | simp only [sel, rst, List.cons_append, List.nil_append, World.size_alloc, size_ext, World.size_setCell, size_setMap, World.size_drew, size_drewN, upd, List.set_cons_zero, List.set_cons_succ, if_true, reduceIte, not_false_eq_true, cs] at O | simp only [sel, rst, List.cons_append, List.nil_append, World.size_alloc, size_ext, World.size_setCell, size_setMap, World.size_drew, size_drewN, upd, List.set_cons_zero, List.set_cons_succ, if_true, reduceIte, not_false_eq_true] at O | skip)
      (try clear cs)
      (try clear v1)
      (try clear v2)
      (try clear v3)
    replace O := O.listNil (e := 69) (size := 10) (cs := rowCells)
    have hmk : k ≤ m.length := by omega
    have S1 := Lib.hid (listA_src_take (k := k) rowCells_len (O.hold (listA 69 10 rowCells (some ⟨g, 0, none⟩) c m) (by simp)) hmk)
    have L1 : Hid ((m.take k).length = k) := Lib.hid (by simp; omega)
    have hkc : (k : Int) ≤ (c : Int) := by omega
    have hkl : (k : Int) ≤ (m.length : Int) := by omega
    have cs := O.facts
    simp only [factsP, cellsP, roomP, foots_cons, foots_nil, foots_append, foot_pt, ptb, ptb_mapA, foot_mapA, factsP_mapA, foot_bun, List.append_nil, List.nil_append, List.cons_append, List.nodup_cons, List.nodup_nil, List.mem_cons, List.not_mem_nil, List.mem_singleton, List.forall_mem_cons, not_or, not_false_eq_true, and_true, true_and, or_false, false_or, forall_eq_or_imp, forall_eq, implies_true, Nat.zero_add, Nat.reduceAdd, and_assoc, ptb_listA, factsP_listA, refL, rowCells] at cs
    go_upto_region 6 with ((at_builtin; refine wl_app_row O rfl rfl rfl rfl (m.take k) L1.out rfl S1.out (by have := L1.out; simp; omega) ?_; intro A1 c1 w4 O1))
    clear O cs
    have O := O1
    clear O1
    rw [List.nil_append] at O
    have hlt1 : (m.take k).length = k := L1.out
    have S2 := Lib.hid (listA_src_drop (k := k + 1) rowCells_len (O.hold (listA 69 10 rowCells (some ⟨g, 0, none⟩) c m) (by simp)) (by omega))
    have L2 : Hid ((m.drop (k + 1)).length = m.length - (k + 1)) := Lib.hid (by simp)
    have hk1l : ((k : Int) + 1) ≤ (m.length : Int) := by omega
    have hk1c : ((k : Int) + 1) ≤ (c : Int) := by omega
    have HL1 := Lib.hid hlt1
    clear hlt1
    by_cases hkc2 : k + 1 = c
    · have hz : m.drop (k + 1) = [] := List.drop_eq_nil_of_le (by omega)
      have hz2 : m.length - (k + 1) = 0 := by omega
      have hml : m.length = k + 1 := by omega
      have hkc4 : ((k : Int) + 1) = (c : Int) := by omega
      have HZ := Lib.hid hz
      have HM := Lib.hid hml
      clear hz hz2 hml S2 L2
      have cs := O.facts
      simp only [factsP, cellsP, roomP, foots_cons, foots_nil, foots_append, foot_pt, ptb, ptb_mapA, foot_mapA, factsP_mapA, foot_bun, List.append_nil, List.nil_append, List.cons_append, List.nodup_cons, List.nodup_nil, List.mem_cons, List.not_mem_nil, List.mem_singleton, List.forall_mem_cons, not_or, not_false_eq_true, and_true, true_and, or_false, false_or, forall_eq_or_imp, forall_eq, implies_true, Nat.zero_add, Nat.reduceAdd, and_assoc, ptb_listA, factsP_listA, refL, rowCells] at cs
      go_wp2_with ((at_builtin; refine wl_app_row O rfl rfl HL1.out rfl [] rfl rfl ⟨rfl, fun h => absurd h (Nat.lt_irrefl 0)⟩ (by have := HL1.out; simp only [List.length_nil]; omega) ?_; intro A2 c2 w5 O1; have cs1 := O1.facts; simp only [factsP, cellsP, roomP, foots_cons, foots_nil, foots_append, foot_pt, ptb, ptb_mapA, foot_mapA, factsP_mapA, foot_bun, List.append_nil, List.nil_append, List.cons_append, List.nodup_cons, List.nodup_nil, List.mem_cons, List.not_mem_nil, List.mem_singleton, List.forall_mem_cons, not_or, not_false_eq_true, and_true, true_and, or_false, false_or, forall_eq_or_imp, forall_eq, implies_true, Nat.zero_add, Nat.reduceAdd, and_assoc, ptb_listA, factsP_listA, refL, rowCells] at cs1))
      clear O
      have O := O1
      clear O1
      rw [List.append_nil] at O
      go_ret
      refine ⟨rfl, A2, c2, ?_⟩
      rw [HZ.out, List.append_nil]
      have hlen : (m.take k).length = k := HL1.out
      rw [hlen]
      have O3 := (O.front1 [false, false, true] rfl).set_at (j := 1) (v := .slice A2 k c2) []
      exact O3.sel [true, true]
    · have hkc3 : ((k : Int) + 1) < (c : Int) := by omega
      have cs := O.facts
      simp only [factsP, cellsP, roomP, foots_cons, foots_nil, foots_append, foot_pt, ptb, ptb_mapA, foot_mapA, factsP_mapA, foot_bun, List.append_nil, List.nil_append, List.cons_append, List.nodup_cons, List.nodup_nil, List.mem_cons, List.not_mem_nil, List.mem_singleton, List.forall_mem_cons, not_or, not_false_eq_true, and_true, true_and, or_false, false_or, forall_eq_or_imp, forall_eq, implies_true, Nat.zero_add, Nat.reduceAdd, and_assoc, ptb_listA, factsP_listA, refL, rowCells] at cs
      go_wp2_with ((at_builtin; refine wl_app_row O rfl rfl HL1.out rfl (m.drop (k + 1)) L2.out rfl (by have := S2.out; simpa using this) (by have := L2.out; have := HL1.out; simp; omega) ?_; intro A2 c2 w5 O1; have cs1 := O1.facts; simp only [factsP, cellsP, roomP, foots_cons, foots_nil, foots_append, foot_pt, ptb, ptb_mapA, foot_mapA, factsP_mapA, foot_bun, List.append_nil, List.nil_append, List.cons_append, List.nodup_cons, List.nodup_nil, List.mem_cons, List.not_mem_nil, List.mem_singleton, List.forall_mem_cons, not_or, not_false_eq_true, and_true, true_and, or_false, false_or, forall_eq_or_imp, forall_eq, implies_true, Nat.zero_add, Nat.reduceAdd, and_assoc, ptb_listA, factsP_listA, refL, rowCells] at cs1))
      clear O
      have O := O1
      clear O1
      go_ret
      refine ⟨rfl, A2, c2, ?_⟩
      apply Mem.perm (L := [.pt tb [.int .i64 most, .slice A2 (m.take k ++ m.drop (k + 1)).length c2] 50, listA 69 10 rowCells A2 c2 (m.take k ++ m.drop (k + 1))]) ?_ (List.Perm.refl _)
      have hlen : k + (m.length - (k + 1)) = (m.take k ++ m.drop (k + 1)).length := by simp; omega
      rw [hlen]
      have O3 := (O.front1 [false, false, true] rfl).set_at (j := 1) (v := .slice A2 (m.take k ++ m.drop (k + 1)).length c2) []
      exact O3.sel [true, true]
  · have hl : findI m i = m.length := by have := findI_le m i; omega
    have hg := findI_none.1 hl
    rw [hg] at hv
    simp only at hv
    subst hv
    have hfr : findR m i = -1 := by simp [findR, hf]
    rw [hfr] at C
    simp only [Inst.val, refL] at C ⊢
    clear hfr hg hl hf
    go_enter Try.func25, Try.ntmps25
    have cs := O.facts
    simp only [factsP, cellsP, roomP, foots_cons, foots_nil, foots_append, foot_pt, ptb, ptb_mapA, foot_mapA, factsP_mapA, foot_bun, List.append_nil, List.nil_append, List.cons_append, List.nodup_cons, List.nodup_nil, List.mem_cons, List.not_mem_nil, List.mem_singleton, List.forall_mem_cons, not_or, not_false_eq_true, and_true, true_and, or_false, false_or, forall_eq_or_imp, forall_eq, implies_true, Nat.zero_add, Nat.reduceAdd, and_assoc, ptb_listA, factsP_listA, refL, rowCells] at cs
    go_wp2_with fail
    first | apply Mem.atCall | apply Mem.atCode | apply Mem.atList
    case h => repeat' (first | (with_reducible exact O) | (with_reducible apply Mem.drew) | (with_reducible apply Mem.drewN) | (with_reducible apply Mem.ext) | (with_reducible apply Mem.alloc) | (with_reducible apply Mem.setCell) | (simp only [ptb, ptb_upd, foots_cons, List.mem_cons, World.size_alloc, size_ext, World.size_setCell, true_or, or_true, eq_self_iff_true]))
    case' k =>
      intro w1 O'
      (try clear O)
      have O := O'
      clear O'
      (first | simp only [sel, rst, List.cons_append, List.nil_append, World.size_alloc, size_ext, World.size_setCell, size_setMap, World.size_drew, size_drewN, upd, List.set_cons_zero, List.set_cons_succ, if_true, reduceIte, not_false_eq_true, cs] at O | simp only [sel, rst, List.cons_append, List.nil_append, World.size_alloc, size_ext, World.size_setCell, size_setMap, World.size_drew, size_drewN, upd, List.set_cons_zero, List.set_cons_succ, if_true, reduceIte, not_false_eq_true] at O | skip)
      (try clear cs)
      (try clear v1)
      (try clear v2)
      (try clear v3)
    refine (C.out w1 (O.pre [false, true, true])).mono ?_
    rintro e w2 ⟨rfl, o⟩
    replace O := O.callp [] o
    clear o
    simp only [put, List.cons_append, List.nil_append] at O
    have cs := O.facts
    simp only [factsP, cellsP, roomP, foots_cons, foots_nil, foots_append, foot_pt, ptb, ptb_mapA, foot_mapA, factsP_mapA, foot_bun, List.append_nil, List.nil_append, List.cons_append, List.nodup_cons, List.nodup_nil, List.mem_cons, List.not_mem_nil, List.mem_singleton, List.forall_mem_cons, not_or, not_false_eq_true, and_true, true_and, or_false, false_or, forall_eq_or_imp, forall_eq, implies_true, Nat.zero_add, Nat.reduceAdd, and_assoc, ptb_listA, factsP_listA, refL, rowCells] at cs
    go_wp2_with fail
    go_ret
    exact ⟨rfl, A, c, O.sel [false, true, true]⟩
end Go.Proofs.Ytbpanhmpffjmfaa
