/- WALK: a step of the world of Paxos: an event of no kind, above 5. -/
import Derived.Test.YtkhpikjmhamppaaPx11
set_option linter.unusedVariables false
set_option linter.unusedSimpArgs false
namespace Go.Proofs.Ytkhpikjmhamppaa
open Go.RowKit Go.Tk
set_option maxRecDepth 100000 in
set_option maxHeartbeats 16000000 in
theorem px_high01 (w : World) (xb n : Nat) (X : PxM) (ek ea eb : Int) (ev : ByteArray) (hn : 1 ≤ n ∧ n ≤ 5) (h : Pre w (X.parts n xb)) (hek : inI64 ek) (hb : inI64 eb) (hsz : X.size ≤ 1000000) (hmo : ∀ q ∈ X.props, q.2.1 = none → q.2.2.b.r = 0) (hk : 5 < ek) (hj6k : pickN ek 6 < 2) :
    Calls Try.prog 23 #[.pointer (some ⟨xb, 0, none⟩), (⟨ek, ea, eb, ev⟩ : Ev).val] w (fun e w' => e = .returned (.tuple #[]) ∧ StepPost n xb w X none w') := by
  obtain ⟨fp, hfp⟩ : ∃ F, F = foots (X.parts n xb) := ⟨_, rfl⟩
  have O : Mem w fp w (X.parts n xb) := by rw [hfp]; exact h
  have HF := Lib.hid hfp
  have HMO := Lib.hid hmo
  clear hfp h hmo
  have hs2 : X.l2.length ≤ 1000000 := by simp only [PxM.size] at hsz; omega
  have hs3 : X.l3.length ≤ 1000000 := by simp only [PxM.size] at hsz; omega
  have hs4 : X.l4.length ≤ 1000000 := by simp only [PxM.size] at hsz; omega
  have hs5 : X.l5.length ≤ 1000000 := by simp only [PxM.size] at hsz; omega
  clear hsz
  have P6 := Lib.hid (fun W => q_pick ek 6 hek (by omega) (by omega) W)
  have hj6 : pickN ek 6 < 6 := pickN_lt (by omega)
  generalize pickN ek 6 = j6 at P6 hj6 hj6k
  have fin : ∀ W, Mem w fp W (X.parts n xb) → StepPost n xb w X none W := fun W hW => ⟨X, Move.idle, by rw [← HF.out]; exact hW, by omega, HMO.out, rfl, rfl⟩
  have FIN := Lib.hid fin
  clear fin
  have e0 : (ek == 0) = false := by simp; omega
  have e1 : (ek == 1) = false := by simp; omega
  have e2 : (ek == 2) = false := by simp; omega
  have e3 : (ek == 3) = false := by simp; omega
  have e4 : (ek == 4) = false := by simp; omega
  have e5 : (ek == 5) = false := by simp; omega
  simp only [PxM.parts, PxM.cells] at O FIN
  simp only [Ev.val]
  have e1' : decide (1 < ek) = true := by simp; omega
  clear hk
  have hjs : j6 = 0 ∨ j6 = 1 := by omega
  clear hj6 hj6k
  rcases hjs with rfl | rfl
  all_goals
    skip
    go_enter Try.func23, Try.ntmps23
    have cs := O.facts
    simp only [factsP, cellsP, roomP, foots_cons, foots_nil, foots_append, foot_pt, ptb, ptb_mapA, foot_mapA, factsP_mapA, foot_bun, List.append_nil, List.nil_append, List.cons_append, List.nodup_cons, List.nodup_nil, List.mem_cons, List.not_mem_nil, List.mem_singleton, List.forall_mem_cons, not_or, not_false_eq_true, and_true, true_and, or_false, false_or, forall_eq_or_imp, forall_eq, implies_true, Nat.zero_add, Nat.reduceAdd, and_assoc, ptb_listA, factsP_listA, ptb_fam, factsP_fam, ptb_propA, factsP_propA, ptb_learnA, factsP_learnA, ptb_tabA, factsP_tabA, Nat.mul_one, sentCells, ptrCells] at cs
    go_upto_region 2 with fail
    first | apply Mem.atCall | apply Mem.atCode | apply Mem.atList
    case h => repeat' (first | (with_reducible exact O) | (with_reducible apply Mem.drew) | (with_reducible apply Mem.drewN) | (with_reducible apply Mem.ext) | (with_reducible apply Mem.alloc) | (with_reducible apply Mem.setCell) | (simp only [ptb, ptb_upd, foots_cons, List.mem_cons, World.size_alloc, size_ext, World.size_setCell, true_or, or_true, eq_self_iff_true, ptb_listA, ptb_fam, ptb_propA, ptb_learnA, ptb_tabA]))
    case' k =>
      intro w1 O'
      (try clear O)
      have O := O'
      clear O'
      (first | simp only [sel, rst, List.cons_append, List.nil_append, World.size_alloc, size_ext, World.size_setCell, size_setMap, World.size_drew, size_drewN, upd, List.set_cons_zero, List.set_cons_succ, if_true, if_false, reduceIte, not_false_eq_true, ne_lt0, ne_lt1, ne_lt2, ne_lt3, ne_lt4, cs] at O | simp only [sel, rst, List.cons_append, List.nil_append, World.size_alloc, size_ext, World.size_setCell, size_setMap, World.size_drew, size_drewN, upd, List.set_cons_zero, List.set_cons_succ, if_true, if_false, reduceIte, not_false_eq_true, ne_lt0, ne_lt1, ne_lt2, ne_lt3, ne_lt4] at O | skip)
      (try clear cs)
      (try clear v1)
      (try clear v2)
      (try clear v3)
    generalize w.heap.size = vb at O ⊢
    apply region_quiet_mem (by kernel_rfl) (by kernel_rfl)
    case O => repeat' (first | (with_reducible exact O) | (with_reducible apply Mem.drew) | (with_reducible apply Mem.drewN) | (with_reducible apply Mem.ext) | (with_reducible apply Mem.alloc) | (with_reducible apply Mem.setCell) | (simp only [ptb, ptb_upd, foots_cons, List.mem_cons, World.size_alloc, size_ext, World.size_setCell, true_or, or_true, eq_self_iff_true, ptb_listA, ptb_fam, ptb_propA, ptb_learnA, ptb_tabA]))
    case' h =>
      intro w2 O'
      (try clear O)
      have O := O'
      clear O'
      (first | simp only [sel, rst, List.cons_append, List.nil_append, World.size_alloc, size_ext, World.size_setCell, size_setMap, World.size_drew, size_drewN, upd, List.set_cons_zero, List.set_cons_succ, if_true, if_false, reduceIte, not_false_eq_true, ne_lt0, ne_lt1, ne_lt2, ne_lt3, ne_lt4, cs] at O | simp only [sel, rst, List.cons_append, List.nil_append, World.size_alloc, size_ext, World.size_setCell, size_setMap, World.size_drew, size_drewN, upd, List.set_cons_zero, List.set_cons_succ, if_true, if_false, reduceIte, not_false_eq_true, ne_lt0, ne_lt1, ne_lt2, ne_lt3, ne_lt4] at O | skip)
      (try clear cs)
      (try clear v1)
      (try clear v2)
      (try clear v3)
    have cs := O.facts
    simp only [factsP, cellsP, roomP, foots_cons, foots_nil, foots_append, foot_pt, ptb, ptb_mapA, foot_mapA, factsP_mapA, foot_bun, List.append_nil, List.nil_append, List.cons_append, List.nodup_cons, List.nodup_nil, List.mem_cons, List.not_mem_nil, List.mem_singleton, List.forall_mem_cons, not_or, not_false_eq_true, and_true, true_and, or_false, false_or, forall_eq_or_imp, forall_eq, implies_true, Nat.zero_add, Nat.reduceAdd, and_assoc, ptb_listA, factsP_listA, ptb_fam, factsP_fam, ptb_propA, factsP_propA, ptb_learnA, factsP_learnA, ptb_tabA, factsP_tabA, Nat.mul_one, sentCells, ptrCells] at cs
    repeat (go_big_quiet_step ((first | (go_at_call 8; with_reducible exact quietMem (P6.out _)))))
    refine wpQuiet_nil ?_
    intro w3 hq
    (try clear cs)
    (try clear v1)
    (try clear v2)
    (try clear v3)
    replace O := O.qext hq
    clear hq
    clear P6
    have cs := O.facts
    simp only [factsP, cellsP, roomP, foots_cons, foots_nil, foots_append, foot_pt, ptb, ptb_mapA, foot_mapA, factsP_mapA, foot_bun, List.append_nil, List.nil_append, List.cons_append, List.nodup_cons, List.nodup_nil, List.mem_cons, List.not_mem_nil, List.mem_singleton, List.forall_mem_cons, not_or, not_false_eq_true, and_true, true_and, or_false, false_or, forall_eq_or_imp, forall_eq, implies_true, Nat.zero_add, Nat.reduceAdd, and_assoc, ptb_listA, factsP_listA, ptb_fam, factsP_fam, ptb_propA, factsP_propA, ptb_learnA, factsP_learnA, ptb_tabA, factsP_tabA, Nat.mul_one, sentCells, ptrCells] at cs
    go_wp2_with fail
    refine bodyPost_ret (results_none rfl _ _ _) rfl ⟨rfl, ?_⟩
    exact FIN.out _ (O.sel [false, true, true, true, true, true, true, true, true, true, true, true])

end Go.Proofs.Ytkhpikjmhamppaa
