/- PROVED: instances stand each by itself (AcceptorAlone): for arguments of bulk at most 1048576, the law returns true, and each argument reads behind the call as it read before. -/
import Derived.Test.YtbpanhmpffjmfaaAccMem
import Derived.Test.YtbpanhmpffjmfaaAlonePlain
set_option linter.unusedVariables false
set_option linter.unusedSimpArgs false
namespace Go.Proofs.Ytbpanhmpffjmfaa
open Go.RowKit Go.WideShapes Go.ChangeShapes Go.ChangeAt Go.Tk

set_option maxRecDepth 100000 in
set_option maxHeartbeats 16000000 in
theorem walkAlone (sv : Value) (l : List OpR) (w : World) (hs : Script w sv l) : Calls Try.prog 4 #[sv] w (fun e w' => e = .returned (.bool true) ∧ Below w.heap.size w w') := by
  obtain ⟨hl, A, c, rfl, hc⟩ := hs
  have HC := Lib.hid hc
  clear hc
  have O : Mem w [] w [] := Mem.begin
  go_enter Try.func4, Try.ntmps4
  go_wp2_with fail
  refine (m_New _ 4096 (by omega)).mono ?_
  rintro e w1 ⟨rfl, o⟩
  replace O := O.callp [] o
  clear o
  simp only [put, List.cons_append, List.nil_append] at O
  have cs := O.facts
  simp only [factsP, cellsP, roomP, foots_cons, foots_nil, foots_append, foot_pt, ptb, ptb_mapA, foot_mapA, factsP_mapA, foot_bun, List.append_nil, List.nil_append, List.cons_append, List.nodup_cons, List.nodup_nil, List.mem_cons, List.not_mem_nil, List.mem_singleton, List.forall_mem_cons, not_or, not_false_eq_true, and_true, true_and, or_false, false_or, forall_eq_or_imp, forall_eq, implies_true, Nat.zero_add, Nat.reduceAdd, and_assoc, foot_tabA, factsP_tabA, ptb_tabA] at cs
  go_wp2_with fail
  first | apply Mem.atCall | apply Mem.atCode | apply Mem.atList
  case h => repeat' (first | (with_reducible exact O) | (with_reducible apply Mem.drew) | (with_reducible apply Mem.drewN) | (with_reducible apply Mem.ext) | (with_reducible apply Mem.alloc) | (with_reducible apply Mem.setCell) | (simp only [ptb, ptb_upd, foots_cons, List.mem_cons, World.size_alloc, size_ext, World.size_setCell, true_or, or_true, eq_self_iff_true]))
  case' k =>
    intro w1' O'
    (try clear O)
    have O := O'
    clear O'
    (first | simp only [sel, rst, List.cons_append, List.nil_append, World.size_alloc, size_ext, World.size_setCell, size_setMap, World.size_drew, size_drewN, upd, List.set_cons_zero, List.set_cons_succ, if_true, reduceIte, not_false_eq_true, cs] at O | simp only [sel, rst, List.cons_append, List.nil_append, World.size_alloc, size_ext, World.size_setCell, size_setMap, World.size_drew, size_drewN, upd, List.set_cons_zero, List.set_cons_succ, if_true, reduceIte, not_false_eq_true] at O | skip)
    (try clear cs)
    (try clear v1)
    (try clear v2)
    (try clear v3)
  refine (m_New _ 4096 (by omega)).mono ?_
  rintro e w2 ⟨rfl, o⟩
  replace O := O.callp [] o
  clear o
  simp only [put, List.cons_append, List.nil_append] at O
  have cs := O.facts
  simp only [factsP, cellsP, roomP, foots_cons, foots_nil, foots_append, foot_pt, ptb, ptb_mapA, foot_mapA, factsP_mapA, foot_bun, List.append_nil, List.nil_append, List.cons_append, List.nodup_cons, List.nodup_nil, List.mem_cons, List.not_mem_nil, List.mem_singleton, List.forall_mem_cons, not_or, not_false_eq_true, and_true, true_and, or_false, false_or, forall_eq_or_imp, forall_eq, implies_true, Nat.zero_add, Nat.reduceAdd, and_assoc, foot_tabA, factsP_tabA, ptb_tabA] at cs
  go_wp2_with fail
  first | apply Mem.atCall | apply Mem.atCode | apply Mem.atList
  case h => repeat' (first | (with_reducible exact O) | (with_reducible apply Mem.drew) | (with_reducible apply Mem.drewN) | (with_reducible apply Mem.ext) | (with_reducible apply Mem.alloc) | (with_reducible apply Mem.setCell) | (simp only [ptb, ptb_upd, foots_cons, List.mem_cons, World.size_alloc, size_ext, World.size_setCell, true_or, or_true, eq_self_iff_true]))
  case' k =>
    intro w2' O'
    (try clear O)
    have O := O'
    clear O'
    (first | simp only [sel, rst, List.cons_append, List.nil_append, World.size_alloc, size_ext, World.size_setCell, size_setMap, World.size_drew, size_drewN, upd, List.set_cons_zero, List.set_cons_succ, if_true, reduceIte, not_false_eq_true, cs] at O | simp only [sel, rst, List.cons_append, List.nil_append, World.size_alloc, size_ext, World.size_setCell, size_setMap, World.size_drew, size_drewN, upd, List.set_cons_zero, List.set_cons_succ, if_true, reduceIte, not_false_eq_true] at O | skip)
    (try clear cs)
    (try clear v1)
    (try clear v2)
    (try clear v3)
  refine (m_alive _).mono ?_
  rintro e w3 ⟨rfl, o⟩
  replace O := O.callp [] o
  clear o
  simp only [put, List.cons_append, List.nil_append] at O
  have cs := O.facts
  simp only [factsP, cellsP, roomP, foots_cons, foots_nil, foots_append, foot_pt, ptb, ptb_mapA, foot_mapA, factsP_mapA, foot_bun, List.append_nil, List.nil_append, List.cons_append, List.nodup_cons, List.nodup_nil, List.mem_cons, List.not_mem_nil, List.mem_singleton, List.forall_mem_cons, not_or, not_false_eq_true, and_true, true_and, or_false, false_or, forall_eq_or_imp, forall_eq, implies_true, Nat.zero_add, Nat.reduceAdd, and_assoc, foot_tabA, factsP_tabA, ptb_tabA] at cs
  go_wp2_with fail
  clear cs
  go_loopw [8] (fun s8 wr => ∃ (k : Nat) (m m' : Rows10), k ≤ l.length ∧ k ≤ 300 ∧ s8 = .int .i64 k ∧ Mem w [] wr [.pt w3.heap.size [.int .u64 1, .int .i64 0, .int .i64 0, .int .u32 0] 31, tabA (w1'.heap.size + 1) w1'.heap.size 4096 m', tabA (w.heap.size + 1) w.heap.size 4096 m] ∧ Hid (Alone k m m')) (fun s8 _ => l.length - (intOf s8).toNat)
  case atStart =>
    refine ⟨0, [], [], by omega, by omega, rfl, ?_, Lib.hid Alone.zero⟩
    repeat' (first | (with_reducible exact O) | (with_reducible apply Mem.drew) | (with_reducible apply Mem.drewN) | (with_reducible apply Mem.ext) | (with_reducible apply Mem.alloc) | (with_reducible apply Mem.setCell) | (simp only [ptb, ptb_upd, foots_cons, List.mem_cons, World.size_alloc, size_ext, World.size_setCell, true_or, or_true, eq_self_iff_true]))
  case round =>
    clear O
    obtain ⟨k, m, m', hk, hk300, rfl, O, HJ⟩ := hrel
    by_cases hlt : k < l.length ∧ k < 300
    case neg =>
      have hcase : (k < l.length ∧ ¬ k < 300) ∨ ¬ k < l.length := by omega
      rcases hcase with ⟨h1, h2⟩ | h1
      all_goals
        have cs := O.facts
        simp only [factsP, cellsP, roomP, foots_cons, foots_nil, foots_append, foot_pt, ptb, ptb_mapA, foot_mapA, factsP_mapA, foot_bun, List.append_nil, List.nil_append, List.cons_append, List.nodup_cons, List.nodup_nil, List.mem_cons, List.not_mem_nil, List.mem_singleton, List.forall_mem_cons, not_or, not_false_eq_true, and_true, true_and, or_false, false_or, forall_eq_or_imp, forall_eq, implies_true, Nat.zero_add, Nat.reduceAdd, and_assoc, foot_tabA, factsP_tabA, ptb_tabA] at cs
        go_wp2_with fail
        go_ret
        exact ⟨rfl, O.fr.below rfl⟩
    case pos =>
      obtain ⟨hlt, h300⟩ := hlt
      obtain ⟨⟨hwf, hbr⟩, b, off, rfl, hbb, c0, c1, c2, c3, c4, c5, c6, c7⟩ := HC.out k _ (List.getElem?_eq_getElem hlt)
      generalize l[k] = o at *
      obtain ⟨ok, ⟨ix, ibk, irp, iix⟩, ⟨br, bn⟩, ov⟩ := o
      simp only at hbr c0 c1 c2 c3 c4 c5 c6 c7 hwf
      have V := Lib.hid (fun W (h : Fr [] w W) => And.intro ((h.cell hbb).trans c0) (And.intro ((h.cell hbb).trans c1) (And.intro ((h.cell hbb).trans c2) (And.intro ((h.cell hbb).trans c3) (And.intro ((h.cell hbb).trans c4) (And.intro ((h.cell hbb).trans c5) (And.intro ((h.cell hbb).trans c6) ((h.cell hbb).trans c7))))))))
      clear c0 c1 c2 c3 c4 c5 c6 c7
      have HWF := Lib.hid hwf
      clear hwf
      skip
      have cs := O.facts
      simp only [factsP, cellsP, roomP, foots_cons, foots_nil, foots_append, foot_pt, ptb, ptb_mapA, foot_mapA, factsP_mapA, foot_bun, List.append_nil, List.nil_append, List.cons_append, List.nodup_cons, List.nodup_nil, List.mem_cons, List.not_mem_nil, List.mem_singleton, List.forall_mem_cons, not_or, not_false_eq_true, and_true, true_and, or_false, false_or, forall_eq_or_imp, forall_eq, implies_true, Nat.zero_add, Nat.reduceAdd, and_assoc, foot_tabA, factsP_tabA, ptb_tabA] at cs
      have v1 := V.out _ O.fr
      go_upto_region 10 with fail
      first | apply Mem.atCall | apply Mem.atCode | apply Mem.atList
      case h => repeat' (first | (with_reducible exact O) | (with_reducible apply Mem.drew) | (with_reducible apply Mem.drewN) | (with_reducible apply Mem.ext) | (with_reducible apply Mem.alloc) | (with_reducible apply Mem.setCell) | (simp only [ptb, ptb_upd, foots_cons, List.mem_cons, World.size_alloc, size_ext, World.size_setCell, true_or, or_true, eq_self_iff_true]))
      case' k =>
        intro wq O'
        (try clear O)
        have O := O'
        clear O'
        (first | simp only [sel, rst, List.cons_append, List.nil_append, World.size_alloc, size_ext, World.size_setCell, size_setMap, World.size_drew, size_drewN, upd, List.set_cons_zero, List.set_cons_succ, if_true, reduceIte, not_false_eq_true, cs] at O | simp only [sel, rst, List.cons_append, List.nil_append, World.size_alloc, size_ext, World.size_setCell, size_setMap, World.size_drew, size_drewN, upd, List.set_cons_zero, List.set_cons_succ, if_true, reduceIte, not_false_eq_true] at O | skip)
        (try clear cs)
        (try clear v1)
        (try clear v2)
        (try clear v3)
      go_cut [10] (fun s10 wc => s10 = .bool (decide ((⟨ix, ibk, irp, iix⟩ : Inst) = i1)) ∧ Mem w [] wc [.pt wr.heap.size [.int .i64 ok, .int .u64 ix, .int .i64 ibk, .int .i64 irp, .int .u32 iix, .int .u32 br, .int .u8 bn, .string ov] 37, .pt w3.heap.size [.int .u64 1, .int .i64 0, .int .i64 0, .int .u32 0] 31, tabA (w1'.heap.size + 1) w1'.heap.size 4096 m', tabA (w.heap.size + 1) w.heap.size 4096 m])
      case first =>
        have cs := O.facts
        simp only [factsP, cellsP, roomP, foots_cons, foots_nil, foots_append, foot_pt, ptb, ptb_mapA, foot_mapA, factsP_mapA, foot_bun, List.append_nil, List.nil_append, List.cons_append, List.nodup_cons, List.nodup_nil, List.mem_cons, List.not_mem_nil, List.mem_singleton, List.forall_mem_cons, not_or, not_false_eq_true, and_true, true_and, or_false, false_or, forall_eq_or_imp, forall_eq, implies_true, Nat.zero_add, Nat.reduceAdd, and_assoc, foot_tabA, factsP_tabA, ptb_tabA] at cs
        have v1 := V.out _ O.fr
        go_wp2_with fail
        all_goals
          go_meet
          refine ⟨?_, O⟩
          first | (refine congrArg Value.bool (Eq.symm (decide_eq_false ?_)); simp only [i1, Inst.mk.injEq]; omega) | (refine congrArg Value.bool (Eq.symm (decide_eq_true ?_)); simp only [i1, Inst.mk.injEq]; omega)
      case rest =>
        clear O
        obtain ⟨rfl, O⟩ := hcut
        clear V
        skip
        have HW : (⟨ix, ibk, irp, iix⟩ : Inst).wf := HWF.out
        obtain ⟨mine, hmine⟩ : ∃ b : Bool, b = decide ((⟨ix, ibk, irp, iix⟩ : Inst) = i1) := ⟨_, rfl⟩
        rw [← hmine]
        obtain ⟨m2, hm2⟩ : ∃ x, x = step10 4096 m ⟨ok, ⟨ix, ibk, irp, iix⟩, ⟨br, bn⟩, ov⟩ := ⟨_, rfl⟩
        obtain ⟨m3, hm3⟩ : ∃ x, x = (if mine then step10 4096 m' ⟨ok, ⟨ix, ibk, irp, iix⟩, ⟨br, bn⟩, ov⟩ else m') := ⟨_, rfl⟩
        have G : Hid (Alone (k + 1) m2 m3) := by
          rw [hm2, hm3]
          by_cases hm : (⟨ix, ibk, irp, iix⟩ : Inst) = i1
          · rw [hmine, decide_eq_true hm]
            exact HJ.out.mine h300 hm
          · rw [hmine, decide_eq_false hm]
            exact HJ.out.other hm
        clear hmine
        have H2 := Lib.hid hm2
        have H3 := Lib.hid hm3
        clear hm2 hm3 HJ HWF hbr
        have HW2 := Lib.hid HW
        clear HW
        have cs := O.facts
        simp only [factsP, cellsP, roomP, foots_cons, foots_nil, foots_append, foot_pt, ptb, ptb_mapA, foot_mapA, factsP_mapA, foot_bun, List.append_nil, List.nil_append, List.cons_append, List.nodup_cons, List.nodup_nil, List.mem_cons, List.not_mem_nil, List.mem_singleton, List.forall_mem_cons, not_or, not_false_eq_true, and_true, true_and, or_false, false_or, forall_eq_or_imp, forall_eq, implies_true, Nat.zero_add, Nat.reduceAdd, and_assoc, foot_tabA, factsP_tabA, ptb_tabA] at cs
        go_upto_block 2 with fail
        go_cut [] (fun wc => Mem w [] wc [.pt wr.heap.size [.int .i64 ok, .int .u64 ix, .int .i64 ibk, .int .i64 irp, .int .u32 iix, .int .u32 br, .int .u8 bn, .string ov] 37, .pt w3.heap.size [.int .u64 1, .int .i64 0, .int .i64 0, .int .u32 0] 31, tabA (w1'.heap.size + 1) w1'.heap.size 4096 m3, tabA (w.heap.size + 1) w.heap.size 4096 m2])
        case first =>
          by_cases hk1 : ok = 1
          · subst hk1
            have e_m2 := H2.out
            simp [step10] at e_m2
            subst e_m2
            have C := Lib.hid (fun W tb mb m h => m_Prepare W tb mb 4096 m ⟨ix, ibk, irp, iix⟩ ⟨br, bn⟩ h HW2.out)
            cases mine
            · have e_m3 := H3.out
              simp [step10] at e_m3
              subst e_m3
              go_wp2_with fail
              first | apply Mem.atCall | apply Mem.atCode | apply Mem.atList
              case h => repeat' (first | (with_reducible exact O) | (with_reducible apply Mem.drew) | (with_reducible apply Mem.drewN) | (with_reducible apply Mem.ext) | (with_reducible apply Mem.alloc) | (with_reducible apply Mem.setCell) | (simp only [ptb, ptb_upd, foots_cons, List.mem_cons, World.size_alloc, size_ext, World.size_setCell, true_or, or_true, eq_self_iff_true]))
              case' k =>
                intro x1 O'
                (try clear O)
                have O := O'
                clear O'
                (first | simp only [sel, rst, List.cons_append, List.nil_append, World.size_alloc, size_ext, World.size_setCell, size_setMap, World.size_drew, size_drewN, upd, List.set_cons_zero, List.set_cons_succ, if_true, reduceIte, not_false_eq_true, cs] at O | simp only [sel, rst, List.cons_append, List.nil_append, World.size_alloc, size_ext, World.size_setCell, size_setMap, World.size_drew, size_drewN, upd, List.set_cons_zero, List.set_cons_succ, if_true, reduceIte, not_false_eq_true] at O | skip)
                (try clear cs)
                (try clear v1)
                (try clear v2)
                (try clear v3)
              refine (C.out x1 _ _ _ (O.pre [false, false, false, true])).mono ?_
              rintro e x2 ⟨rfl, o⟩
              replace O := O.callp [false, false, false, true] o
              clear o
              simp only [put, List.cons_append, List.nil_append] at O
              have cs := O.facts
              simp only [factsP, cellsP, roomP, foots_cons, foots_nil, foots_append, foot_pt, ptb, ptb_mapA, foot_mapA, factsP_mapA, foot_bun, List.append_nil, List.nil_append, List.cons_append, List.nodup_cons, List.nodup_nil, List.mem_cons, List.not_mem_nil, List.mem_singleton, List.forall_mem_cons, not_or, not_false_eq_true, and_true, true_and, or_false, false_or, forall_eq_or_imp, forall_eq, implies_true, Nat.zero_add, Nat.reduceAdd, and_assoc, foot_tabA, factsP_tabA, ptb_tabA] at cs
              go_wp2_with fail
              go_meet
              exact O
            · have e_m3 := H3.out
              simp [step10] at e_m3
              subst e_m3
              go_wp2_with fail
              first | apply Mem.atCall | apply Mem.atCode | apply Mem.atList
              case h => repeat' (first | (with_reducible exact O) | (with_reducible apply Mem.drew) | (with_reducible apply Mem.drewN) | (with_reducible apply Mem.ext) | (with_reducible apply Mem.alloc) | (with_reducible apply Mem.setCell) | (simp only [ptb, ptb_upd, foots_cons, List.mem_cons, World.size_alloc, size_ext, World.size_setCell, true_or, or_true, eq_self_iff_true]))
              case' k =>
                intro x1 O'
                (try clear O)
                have O := O'
                clear O'
                (first | simp only [sel, rst, List.cons_append, List.nil_append, World.size_alloc, size_ext, World.size_setCell, size_setMap, World.size_drew, size_drewN, upd, List.set_cons_zero, List.set_cons_succ, if_true, reduceIte, not_false_eq_true, cs] at O | simp only [sel, rst, List.cons_append, List.nil_append, World.size_alloc, size_ext, World.size_setCell, size_setMap, World.size_drew, size_drewN, upd, List.set_cons_zero, List.set_cons_succ, if_true, reduceIte, not_false_eq_true] at O | skip)
                (try clear cs)
                (try clear v1)
                (try clear v2)
                (try clear v3)
              refine (C.out x1 _ _ _ (O.pre [false, false, false, true])).mono ?_
              rintro e x2 ⟨rfl, o⟩
              replace O := O.callp [false, false, false, true] o
              clear o
              simp only [put, List.cons_append, List.nil_append] at O
              have cs := O.facts
              simp only [factsP, cellsP, roomP, foots_cons, foots_nil, foots_append, foot_pt, ptb, ptb_mapA, foot_mapA, factsP_mapA, foot_bun, List.append_nil, List.nil_append, List.cons_append, List.nodup_cons, List.nodup_nil, List.mem_cons, List.not_mem_nil, List.mem_singleton, List.forall_mem_cons, not_or, not_false_eq_true, and_true, true_and, or_false, false_or, forall_eq_or_imp, forall_eq, implies_true, Nat.zero_add, Nat.reduceAdd, and_assoc, foot_tabA, factsP_tabA, ptb_tabA] at cs
              go_wp2_with fail
              first | apply Mem.atCall | apply Mem.atCode | apply Mem.atList
              case h => repeat' (first | (with_reducible exact O) | (with_reducible apply Mem.drew) | (with_reducible apply Mem.drewN) | (with_reducible apply Mem.ext) | (with_reducible apply Mem.alloc) | (with_reducible apply Mem.setCell) | (simp only [ptb, ptb_upd, foots_cons, List.mem_cons, World.size_alloc, size_ext, World.size_setCell, true_or, or_true, eq_self_iff_true]))
              case' k =>
                intro x3 O'
                (try clear O)
                have O := O'
                clear O'
                (first | simp only [sel, rst, List.cons_append, List.nil_append, World.size_alloc, size_ext, World.size_setCell, size_setMap, World.size_drew, size_drewN, upd, List.set_cons_zero, List.set_cons_succ, if_true, reduceIte, not_false_eq_true, cs] at O | simp only [sel, rst, List.cons_append, List.nil_append, World.size_alloc, size_ext, World.size_setCell, size_setMap, World.size_drew, size_drewN, upd, List.set_cons_zero, List.set_cons_succ, if_true, reduceIte, not_false_eq_true] at O | skip)
                (try clear cs)
                (try clear v1)
                (try clear v2)
                (try clear v3)
              refine (C.out x3 _ _ _ (O.pre [false, false, true, false])).mono ?_
              rintro e x4 ⟨rfl, o⟩
              replace O := O.callp [false, false, true, false] o
              clear o
              simp only [put, List.cons_append, List.nil_append] at O
              have cs := O.facts
              simp only [factsP, cellsP, roomP, foots_cons, foots_nil, foots_append, foot_pt, ptb, ptb_mapA, foot_mapA, factsP_mapA, foot_bun, List.append_nil, List.nil_append, List.cons_append, List.nodup_cons, List.nodup_nil, List.mem_cons, List.not_mem_nil, List.mem_singleton, List.forall_mem_cons, not_or, not_false_eq_true, and_true, true_and, or_false, false_or, forall_eq_or_imp, forall_eq, implies_true, Nat.zero_add, Nat.reduceAdd, and_assoc, foot_tabA, factsP_tabA, ptb_tabA] at cs
              go_wp2_with fail
              go_meet
              exact O
          · by_cases hk2 : ok = 2
            · subst hk2
              have e_m2 := H2.out
              simp [step10] at e_m2
              subst e_m2
              have C := Lib.hid (fun W tb mb m h => m_Accept W tb mb 4096 m ⟨ix, ibk, irp, iix⟩ ⟨br, bn⟩ ov h HW2.out)
              cases mine
              · have e_m3 := H3.out
                simp [step10] at e_m3
                subst e_m3
                go_wp2_with fail
                first | apply Mem.atCall | apply Mem.atCode | apply Mem.atList
                case h => repeat' (first | (with_reducible exact O) | (with_reducible apply Mem.drew) | (with_reducible apply Mem.drewN) | (with_reducible apply Mem.ext) | (with_reducible apply Mem.alloc) | (with_reducible apply Mem.setCell) | (simp only [ptb, ptb_upd, foots_cons, List.mem_cons, World.size_alloc, size_ext, World.size_setCell, true_or, or_true, eq_self_iff_true]))
                case' k =>
                  intro x1 O'
                  (try clear O)
                  have O := O'
                  clear O'
                  (first | simp only [sel, rst, List.cons_append, List.nil_append, World.size_alloc, size_ext, World.size_setCell, size_setMap, World.size_drew, size_drewN, upd, List.set_cons_zero, List.set_cons_succ, if_true, reduceIte, not_false_eq_true, cs] at O | simp only [sel, rst, List.cons_append, List.nil_append, World.size_alloc, size_ext, World.size_setCell, size_setMap, World.size_drew, size_drewN, upd, List.set_cons_zero, List.set_cons_succ, if_true, reduceIte, not_false_eq_true] at O | skip)
                  (try clear cs)
                  (try clear v1)
                  (try clear v2)
                  (try clear v3)
                refine (C.out x1 _ _ _ (O.pre [false, false, false, true])).mono ?_
                rintro e x2 ⟨rfl, o⟩
                replace O := O.callp [false, false, false, true] o
                clear o
                simp only [put, List.cons_append, List.nil_append] at O
                have cs := O.facts
                simp only [factsP, cellsP, roomP, foots_cons, foots_nil, foots_append, foot_pt, ptb, ptb_mapA, foot_mapA, factsP_mapA, foot_bun, List.append_nil, List.nil_append, List.cons_append, List.nodup_cons, List.nodup_nil, List.mem_cons, List.not_mem_nil, List.mem_singleton, List.forall_mem_cons, not_or, not_false_eq_true, and_true, true_and, or_false, false_or, forall_eq_or_imp, forall_eq, implies_true, Nat.zero_add, Nat.reduceAdd, and_assoc, foot_tabA, factsP_tabA, ptb_tabA] at cs
                go_wp2_with fail
                go_meet
                exact O
              · have e_m3 := H3.out
                simp [step10] at e_m3
                subst e_m3
                go_wp2_with fail
                first | apply Mem.atCall | apply Mem.atCode | apply Mem.atList
                case h => repeat' (first | (with_reducible exact O) | (with_reducible apply Mem.drew) | (with_reducible apply Mem.drewN) | (with_reducible apply Mem.ext) | (with_reducible apply Mem.alloc) | (with_reducible apply Mem.setCell) | (simp only [ptb, ptb_upd, foots_cons, List.mem_cons, World.size_alloc, size_ext, World.size_setCell, true_or, or_true, eq_self_iff_true]))
                case' k =>
                  intro x1 O'
                  (try clear O)
                  have O := O'
                  clear O'
                  (first | simp only [sel, rst, List.cons_append, List.nil_append, World.size_alloc, size_ext, World.size_setCell, size_setMap, World.size_drew, size_drewN, upd, List.set_cons_zero, List.set_cons_succ, if_true, reduceIte, not_false_eq_true, cs] at O | simp only [sel, rst, List.cons_append, List.nil_append, World.size_alloc, size_ext, World.size_setCell, size_setMap, World.size_drew, size_drewN, upd, List.set_cons_zero, List.set_cons_succ, if_true, reduceIte, not_false_eq_true] at O | skip)
                  (try clear cs)
                  (try clear v1)
                  (try clear v2)
                  (try clear v3)
                refine (C.out x1 _ _ _ (O.pre [false, false, false, true])).mono ?_
                rintro e x2 ⟨rfl, o⟩
                replace O := O.callp [false, false, false, true] o
                clear o
                simp only [put, List.cons_append, List.nil_append] at O
                have cs := O.facts
                simp only [factsP, cellsP, roomP, foots_cons, foots_nil, foots_append, foot_pt, ptb, ptb_mapA, foot_mapA, factsP_mapA, foot_bun, List.append_nil, List.nil_append, List.cons_append, List.nodup_cons, List.nodup_nil, List.mem_cons, List.not_mem_nil, List.mem_singleton, List.forall_mem_cons, not_or, not_false_eq_true, and_true, true_and, or_false, false_or, forall_eq_or_imp, forall_eq, implies_true, Nat.zero_add, Nat.reduceAdd, and_assoc, foot_tabA, factsP_tabA, ptb_tabA] at cs
                go_wp2_with fail
                first | apply Mem.atCall | apply Mem.atCode | apply Mem.atList
                case h => repeat' (first | (with_reducible exact O) | (with_reducible apply Mem.drew) | (with_reducible apply Mem.drewN) | (with_reducible apply Mem.ext) | (with_reducible apply Mem.alloc) | (with_reducible apply Mem.setCell) | (simp only [ptb, ptb_upd, foots_cons, List.mem_cons, World.size_alloc, size_ext, World.size_setCell, true_or, or_true, eq_self_iff_true]))
                case' k =>
                  intro x3 O'
                  (try clear O)
                  have O := O'
                  clear O'
                  (first | simp only [sel, rst, List.cons_append, List.nil_append, World.size_alloc, size_ext, World.size_setCell, size_setMap, World.size_drew, size_drewN, upd, List.set_cons_zero, List.set_cons_succ, if_true, reduceIte, not_false_eq_true, cs] at O | simp only [sel, rst, List.cons_append, List.nil_append, World.size_alloc, size_ext, World.size_setCell, size_setMap, World.size_drew, size_drewN, upd, List.set_cons_zero, List.set_cons_succ, if_true, reduceIte, not_false_eq_true] at O | skip)
                  (try clear cs)
                  (try clear v1)
                  (try clear v2)
                  (try clear v3)
                refine (C.out x3 _ _ _ (O.pre [false, false, true, false])).mono ?_
                rintro e x4 ⟨rfl, o⟩
                replace O := O.callp [false, false, true, false] o
                clear o
                simp only [put, List.cons_append, List.nil_append] at O
                have cs := O.facts
                simp only [factsP, cellsP, roomP, foots_cons, foots_nil, foots_append, foot_pt, ptb, ptb_mapA, foot_mapA, factsP_mapA, foot_bun, List.append_nil, List.nil_append, List.cons_append, List.nodup_cons, List.nodup_nil, List.mem_cons, List.not_mem_nil, List.mem_singleton, List.forall_mem_cons, not_or, not_false_eq_true, and_true, true_and, or_false, false_or, forall_eq_or_imp, forall_eq, implies_true, Nat.zero_add, Nat.reduceAdd, and_assoc, foot_tabA, factsP_tabA, ptb_tabA] at cs
                go_wp2_with fail
                go_meet
                exact O
            · by_cases hk4 : ok = 4
              · subst hk4
                have e_m2 := H2.out
                simp [step10] at e_m2
                subst e_m2
                have C := Lib.hid (fun W tb mb m h => m_Forget W tb mb 4096 m ⟨ix, ibk, irp, iix⟩ h HW2.out)
                cases mine
                · have e_m3 := H3.out
                  simp [step10] at e_m3
                  subst e_m3
                  go_wp2_with fail
                  first | apply Mem.atCall | apply Mem.atCode | apply Mem.atList
                  case h => repeat' (first | (with_reducible exact O) | (with_reducible apply Mem.drew) | (with_reducible apply Mem.drewN) | (with_reducible apply Mem.ext) | (with_reducible apply Mem.alloc) | (with_reducible apply Mem.setCell) | (simp only [ptb, ptb_upd, foots_cons, List.mem_cons, World.size_alloc, size_ext, World.size_setCell, true_or, or_true, eq_self_iff_true]))
                  case' k =>
                    intro x1 O'
                    (try clear O)
                    have O := O'
                    clear O'
                    (first | simp only [sel, rst, List.cons_append, List.nil_append, World.size_alloc, size_ext, World.size_setCell, size_setMap, World.size_drew, size_drewN, upd, List.set_cons_zero, List.set_cons_succ, if_true, reduceIte, not_false_eq_true, cs] at O | simp only [sel, rst, List.cons_append, List.nil_append, World.size_alloc, size_ext, World.size_setCell, size_setMap, World.size_drew, size_drewN, upd, List.set_cons_zero, List.set_cons_succ, if_true, reduceIte, not_false_eq_true] at O | skip)
                    (try clear cs)
                    (try clear v1)
                    (try clear v2)
                    (try clear v3)
                  refine (C.out x1 _ _ _ (O.pre [false, false, false, true])).mono ?_
                  rintro e x2 ⟨rfl, o⟩
                  replace O := O.callp [false, false, false, true] o
                  clear o
                  simp only [put, List.cons_append, List.nil_append] at O
                  have cs := O.facts
                  simp only [factsP, cellsP, roomP, foots_cons, foots_nil, foots_append, foot_pt, ptb, ptb_mapA, foot_mapA, factsP_mapA, foot_bun, List.append_nil, List.nil_append, List.cons_append, List.nodup_cons, List.nodup_nil, List.mem_cons, List.not_mem_nil, List.mem_singleton, List.forall_mem_cons, not_or, not_false_eq_true, and_true, true_and, or_false, false_or, forall_eq_or_imp, forall_eq, implies_true, Nat.zero_add, Nat.reduceAdd, and_assoc, foot_tabA, factsP_tabA, ptb_tabA] at cs
                  go_wp2_with fail
                  go_meet
                  exact O
                · have e_m3 := H3.out
                  simp [step10] at e_m3
                  subst e_m3
                  go_wp2_with fail
                  first | apply Mem.atCall | apply Mem.atCode | apply Mem.atList
                  case h => repeat' (first | (with_reducible exact O) | (with_reducible apply Mem.drew) | (with_reducible apply Mem.drewN) | (with_reducible apply Mem.ext) | (with_reducible apply Mem.alloc) | (with_reducible apply Mem.setCell) | (simp only [ptb, ptb_upd, foots_cons, List.mem_cons, World.size_alloc, size_ext, World.size_setCell, true_or, or_true, eq_self_iff_true]))
                  case' k =>
                    intro x1 O'
                    (try clear O)
                    have O := O'
                    clear O'
                    (first | simp only [sel, rst, List.cons_append, List.nil_append, World.size_alloc, size_ext, World.size_setCell, size_setMap, World.size_drew, size_drewN, upd, List.set_cons_zero, List.set_cons_succ, if_true, reduceIte, not_false_eq_true, cs] at O | simp only [sel, rst, List.cons_append, List.nil_append, World.size_alloc, size_ext, World.size_setCell, size_setMap, World.size_drew, size_drewN, upd, List.set_cons_zero, List.set_cons_succ, if_true, reduceIte, not_false_eq_true] at O | skip)
                    (try clear cs)
                    (try clear v1)
                    (try clear v2)
                    (try clear v3)
                  refine (C.out x1 _ _ _ (O.pre [false, false, false, true])).mono ?_
                  rintro e x2 ⟨rfl, o⟩
                  replace O := O.callp [false, false, false, true] o
                  clear o
                  simp only [put, List.cons_append, List.nil_append] at O
                  have cs := O.facts
                  simp only [factsP, cellsP, roomP, foots_cons, foots_nil, foots_append, foot_pt, ptb, ptb_mapA, foot_mapA, factsP_mapA, foot_bun, List.append_nil, List.nil_append, List.cons_append, List.nodup_cons, List.nodup_nil, List.mem_cons, List.not_mem_nil, List.mem_singleton, List.forall_mem_cons, not_or, not_false_eq_true, and_true, true_and, or_false, false_or, forall_eq_or_imp, forall_eq, implies_true, Nat.zero_add, Nat.reduceAdd, and_assoc, foot_tabA, factsP_tabA, ptb_tabA] at cs
                  go_wp2_with fail
                  first | apply Mem.atCall | apply Mem.atCode | apply Mem.atList
                  case h => repeat' (first | (with_reducible exact O) | (with_reducible apply Mem.drew) | (with_reducible apply Mem.drewN) | (with_reducible apply Mem.ext) | (with_reducible apply Mem.alloc) | (with_reducible apply Mem.setCell) | (simp only [ptb, ptb_upd, foots_cons, List.mem_cons, World.size_alloc, size_ext, World.size_setCell, true_or, or_true, eq_self_iff_true]))
                  case' k =>
                    intro x3 O'
                    (try clear O)
                    have O := O'
                    clear O'
                    (first | simp only [sel, rst, List.cons_append, List.nil_append, World.size_alloc, size_ext, World.size_setCell, size_setMap, World.size_drew, size_drewN, upd, List.set_cons_zero, List.set_cons_succ, if_true, reduceIte, not_false_eq_true, cs] at O | simp only [sel, rst, List.cons_append, List.nil_append, World.size_alloc, size_ext, World.size_setCell, size_setMap, World.size_drew, size_drewN, upd, List.set_cons_zero, List.set_cons_succ, if_true, reduceIte, not_false_eq_true] at O | skip)
                    (try clear cs)
                    (try clear v1)
                    (try clear v2)
                    (try clear v3)
                  refine (C.out x3 _ _ _ (O.pre [false, false, true, false])).mono ?_
                  rintro e x4 ⟨rfl, o⟩
                  replace O := O.callp [false, false, true, false] o
                  clear o
                  simp only [put, List.cons_append, List.nil_append] at O
                  have cs := O.facts
                  simp only [factsP, cellsP, roomP, foots_cons, foots_nil, foots_append, foot_pt, ptb, ptb_mapA, foot_mapA, factsP_mapA, foot_bun, List.append_nil, List.nil_append, List.cons_append, List.nodup_cons, List.nodup_nil, List.mem_cons, List.not_mem_nil, List.mem_singleton, List.forall_mem_cons, not_or, not_false_eq_true, and_true, true_and, or_false, false_or, forall_eq_or_imp, forall_eq, implies_true, Nat.zero_add, Nat.reduceAdd, and_assoc, foot_tabA, factsP_tabA, ptb_tabA] at cs
                  go_wp2_with fail
                  go_meet
                  exact O
              · have e1 : (ok == 1) = false := by simp [hk1]
                have e2 : (ok == 2) = false := by simp [hk2]
                have e4 : (ok == 4) = false := by simp [hk4]
                obtain rfl : m2 = m := H2.out.trans (by simp [step10, hk1, hk2, hk4])
                obtain rfl : m3 = m' := H3.out.trans (by simp [step10, hk1, hk2, hk4])
                go_wp2_with fail
                go_meet
                exact O
        case rest =>
          clear O
          have O := hcut
          clear hcut cs H2 H3
          have C := Lib.hid (fun W tb mb m h => m_Get W tb mb 4096 m i1 h i1wf)
          have E := G.out.get
          obtain ⟨⟨⟨pr, pn⟩, ⟨ai, ⟨ar, an⟩, av⟩, ge⟩, hg⟩ : ∃ g, g = get10 m3 i1 := ⟨_, rfl⟩
          have C1 := Lib.hid (fun W tb mb h => C.out W tb mb m2 h)
          have C2 := Lib.hid (fun W tb mb h => C.out W tb mb m3 h)
          rw [E, ← hg] at C1
          rw [← hg] at C2
          simp only [Ballot.val, Acc.val] at C1 C2
          clear hg E C
          have cs := O.facts
          simp only [factsP, cellsP, roomP, foots_cons, foots_nil, foots_append, foot_pt, ptb, ptb_mapA, foot_mapA, factsP_mapA, foot_bun, List.append_nil, List.nil_append, List.cons_append, List.nodup_cons, List.nodup_nil, List.mem_cons, List.not_mem_nil, List.mem_singleton, List.forall_mem_cons, not_or, not_false_eq_true, and_true, true_and, or_false, false_or, forall_eq_or_imp, forall_eq, implies_true, Nat.zero_add, Nat.reduceAdd, and_assoc, foot_tabA, factsP_tabA, ptb_tabA] at cs
          go_wp2_with fail
          first | apply Mem.atCall | apply Mem.atCode | apply Mem.atList
          case h => repeat' (first | (with_reducible exact O) | (with_reducible apply Mem.drew) | (with_reducible apply Mem.drewN) | (with_reducible apply Mem.ext) | (with_reducible apply Mem.alloc) | (with_reducible apply Mem.setCell) | (simp only [ptb, ptb_upd, foots_cons, List.mem_cons, World.size_alloc, size_ext, World.size_setCell, true_or, or_true, eq_self_iff_true]))
          case' k =>
            intro x1 O'
            (try clear O)
            have O := O'
            clear O'
            (first | simp only [sel, rst, List.cons_append, List.nil_append, World.size_alloc, size_ext, World.size_setCell, size_setMap, World.size_drew, size_drewN, upd, List.set_cons_zero, List.set_cons_succ, if_true, reduceIte, not_false_eq_true, cs] at O | simp only [sel, rst, List.cons_append, List.nil_append, World.size_alloc, size_ext, World.size_setCell, size_setMap, World.size_drew, size_drewN, upd, List.set_cons_zero, List.set_cons_succ, if_true, reduceIte, not_false_eq_true] at O | skip)
            (try clear cs)
            (try clear v1)
            (try clear v2)
            (try clear v3)
          refine (C1.out x1 _ _ (O.pre [false, false, false, true])).mono ?_
          rintro e x2 ⟨rfl, o⟩
          replace O := O.callp [] o
          clear o
          simp only [put, List.cons_append, List.nil_append] at O
          have cs := O.facts
          simp only [factsP, cellsP, roomP, foots_cons, foots_nil, foots_append, foot_pt, ptb, ptb_mapA, foot_mapA, factsP_mapA, foot_bun, List.append_nil, List.nil_append, List.cons_append, List.nodup_cons, List.nodup_nil, List.mem_cons, List.not_mem_nil, List.mem_singleton, List.forall_mem_cons, not_or, not_false_eq_true, and_true, true_and, or_false, false_or, forall_eq_or_imp, forall_eq, implies_true, Nat.zero_add, Nat.reduceAdd, and_assoc, foot_tabA, factsP_tabA, ptb_tabA] at cs
          go_wp2_with fail
          first | apply Mem.atCall | apply Mem.atCode | apply Mem.atList
          case h => repeat' (first | (with_reducible exact O) | (with_reducible apply Mem.drew) | (with_reducible apply Mem.drewN) | (with_reducible apply Mem.ext) | (with_reducible apply Mem.alloc) | (with_reducible apply Mem.setCell) | (simp only [ptb, ptb_upd, foots_cons, List.mem_cons, World.size_alloc, size_ext, World.size_setCell, true_or, or_true, eq_self_iff_true]))
          case' k =>
            intro x3 O'
            (try clear O)
            have O := O'
            clear O'
            (first | simp only [sel, rst, List.cons_append, List.nil_append, World.size_alloc, size_ext, World.size_setCell, size_setMap, World.size_drew, size_drewN, upd, List.set_cons_zero, List.set_cons_succ, if_true, reduceIte, not_false_eq_true, cs] at O | simp only [sel, rst, List.cons_append, List.nil_append, World.size_alloc, size_ext, World.size_setCell, size_setMap, World.size_drew, size_drewN, upd, List.set_cons_zero, List.set_cons_succ, if_true, reduceIte, not_false_eq_true] at O | skip)
            (try clear cs)
            (try clear v1)
            (try clear v2)
            (try clear v3)
          refine (C2.out x3 _ _ (O.pre [false, false, false, false, true, false])).mono ?_
          rintro e x4 ⟨rfl, o⟩
          replace O := O.callp [] o
          clear o
          simp only [put, List.cons_append, List.nil_append] at O
          have cs := O.facts
          simp only [factsP, cellsP, roomP, foots_cons, foots_nil, foots_append, foot_pt, ptb, ptb_mapA, foot_mapA, factsP_mapA, foot_bun, List.append_nil, List.nil_append, List.cons_append, List.nodup_cons, List.nodup_nil, List.mem_cons, List.not_mem_nil, List.mem_singleton, List.forall_mem_cons, not_or, not_false_eq_true, and_true, true_and, or_false, false_or, forall_eq_or_imp, forall_eq, implies_true, Nat.zero_add, Nat.reduceAdd, and_assoc, foot_tabA, factsP_tabA, ptb_tabA] at cs
          go_wp2_with fail
          go_roundw
          case rel =>
            refine ⟨k + 1, m2, m3, by omega, by omega, by go_num, ?_, G⟩
            apply Mem.to [false, false, false, false, false, true, true, true]
            · repeat' (first | (with_reducible exact O) | (with_reducible apply Mem.drew) | (with_reducible apply Mem.drewN) | (with_reducible apply Mem.ext) | (with_reducible apply Mem.alloc) | (with_reducible apply Mem.setCell) | (simp only [ptb, ptb_upd, foots_cons, List.mem_cons, World.size_alloc, size_ext, World.size_setCell, true_or, or_true, eq_self_iff_true]))
            · rfl
          case measure => simp [intOf]; omega
theorem readAcceptorAlone_22 : Try.prog.readableRec 22 = true ∧ 22 < Try.prog.types.size := ⟨by kernel_rfl, of_decide_eq_true (by kernel_rfl)⟩
theorem ownAcceptorAlone : ownKnob Try.prog.godebug = none := by kernel_rfl
theorem laidOutAcceptorAlone : laidOutB Try.prog = true := by kernel_rfl
theorem contractAcceptorAlone (H : Type) (enc : TypeId × Value → H) (W : World) (base : Nat) (args : Array Value) (ds gs : List (DataW H)) (before : List MemPlace)
    (hval : ∀ (j : Nat) t v, Try.f4.params[j]? = some t → args[j]? = some v → Value.okWide Try.prog W .any base t v)
    (hW : DataW.Whole enc Try.prog Try.f4.params.toList Rows.acceptorAloneSpec.vars false W args.toList ds gs before) (hk : Rows.uptoSmall H (ds ++ gs) = true) :
    Calls Try.prog 4 args W fun e W' => ∃ v, e = .returned v ∧ Rows.acceptorAloneSpec.post enc Try.prog Try.f4 false true false false W args v W' := by
  have hfin : ∀ W', Below W.heap.size W W' → Rows.acceptorAloneSpec.post enc Try.prog Try.f4 false true false false W args (.bool true) W' := fun W' hb =>
    post_of_walk (n := 1) (boolT := 4) rfl (fun ds h => by match ds, h with | [a0], _ => exact ⟨rfl, rfl, rfl⟩) rfl rfl Try.underlying4 laidOutAcceptorAlone (fun t ht => by rw [Try.params4] at ht; simp at ht; subst ht; exact readAcceptorAlone_22) hW hb
  have hN : Rows.uptoBulkAll (ds ++ gs) ≤ 1048576 := of_decide_eq_true hk
  obtain ⟨p, q, hA, hV, rfl, hfz, hnd⟩ := hW
  rw [Try.params4] at hA hval
  obtain ⟨v0, vs0, d0, ds0, p0, q0, hargs, rfl, rfl, h0, r0⟩ := trodAll_cons hA
  obtain ⟨rfl, rfl, rfl⟩ := trodAll_nil r0
  obtain rfl : args = #[v0] := by cases args; simp_all
  simp only [List.cons_append, List.nil_append, Rows.uptoBulkAll] at hN
  obtain ⟨A0, len0, cap0, rfl⟩ := okWide_slice Try.underlying22 (hval 0 22 v0 rfl rfl)
  obtain ⟨f0, g0⟩ := h0
  have ty0 := typed_of_trod (N := 1048576) f0 _ _ _ g0 (by simp only; omega)
  obtain ⟨l, hl⟩ := read_script (Nat.le_refl _) ty0
  exact (walkAlone _ l W hl).mono fun e W' ⟨he, hy⟩ => ⟨_, he, hfin W' hy⟩

set_option maxRecDepth 100000 in
theorem liftedAcceptorAlone (os : Os) (started : os.Started) (H : Type) (enc : TypeId × Value → H) (F : Stop.Interp) :
    ReturnsInHanded {} Try.checked os 4 .any ((Rows.OpenSpec.upto Rows.acceptorAloneSpec).pre6 enc Try.prog Try.f4 Rows.acceptorAloneUptoRow.domain false) (((Rows.OpenSpec.upto Rows.acceptorAloneSpec).at F).post enc Try.prog Try.f4 false true false false) := by
  refine returnsInHanded_of_cond (C := Try.checked) (s := Rows.OpenSpec.upto Rows.acceptorAloneSpec) (k := Rows.uptoSmall) rfl ownAcceptorAlone started (by kernel_rfl) Try.func4
    (OpenSpec.witness (enc := enc) (C := Try.checked) (s := Rows.OpenSpec.upto Rows.acceptorAloneSpec) (k := Rows.uptoSmall) rfl false
      ⟨#[], #[.slice none 0 0], []⟩ 8 (by kernel_rfl) (by kernel_rfl) (by kernel_rfl)
      (x := ([.nil], [], [])) (by kernel_rfl) rfl (by kernel_rfl)) ?_
  intro W base args ds gs before hval hW _ hk _
  exact contractAcceptorAlone H enc W base args ds gs before hval hW hk

theorem AcceptorAlone_holds : Rows.AcceptorAloneUptoSaid :=
  OpenClaim.holds_of_cond 4 Try.f4 rfl rfl rfl rfl rfl rfl rfl ⟨rfl, rfl, rfl, rfl, rfl⟩ rfl rfl rfl rfl rfl (by kernel_rfl) Try.func4 (by kernel_rfl)
    (of_decide_eq_true (by kernel_rfl)) (by unfold Func.isWrapper; first | (rw [if_pos (by decide +kernel)]; kernel_rfl) | (rw [if_neg (by decide +kernel)]; exact ⟨rfl, rfl⟩))
    (fun os started H enc _ F => liftedAcceptorAlone os started H enc F)
end Go.Proofs.Ytbpanhmpffjmfaa
