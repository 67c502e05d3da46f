/- PROVED: what is forgotten is new (AcceptorForgets): for arguments of bulk at most 1048576, the law returns true, and each argument reads behind the call as it read before. -/
import Derived.Test.YtbpanhmpffjmfaaRead10
import Derived.Test.YtbpanhmpffjmfaaAccLive
import Derived.Test.YtbpanhmpffjmfaaAccMem
import Derived.Test.YtbpanhmpffjmfaaForgetPlain
import Derived.Deep.DeepCutAuto
import Derived.Deep.RegionWith
import Derived.Deep.RegionHeld3
import Derived.Deep.DrawnRows
set_option linter.unusedVariables false
set_option linter.unusedSimpArgs false
namespace Go.Proofs.Ytbpanhmpffjmfaa
attribute [local go_sem ↓] Go.wp_at_zero Go.wp_at_succ
open Go.RowKit Go.WideShapes Go.ChangeShapes Go.ChangeAt Go.Tk

set_option maxRecDepth 100000 in
set_option maxHeartbeats 16000000 in
theorem walkForgets (sv sv2 : Value) (l l2 : List OpR) (w : World) (hs : Script w sv l) (hs2 : Script w sv2 l2) : Calls Try.prog 7 #[sv, sv2] w (fun e w' => e = .returned (.bool true) ∧ Below w.heap.size w w') := by
  obtain ⟨hl, A, c, rfl, hc⟩ := hs
  obtain ⟨hl2, A2, c', rfl, hc2⟩ := hs2
  have HC := Lib.hid hc
  have HC2 := Lib.hid hc2
  clear hc hc2
  have O : Mem w [] w [] := Mem.begin
  go_enter Try.func7, Try.ntmps7
  go_wp2_with fail
  refine (m_New _ 1 (by omega)).mono ?_
  rintro e w1 ⟨rfl, o⟩
  replace O := O.callp [] o
  clear o
  simp only [put, List.cons_append, List.nil_append] at O
  have cs := O.facts
  simp only [factsP, cellsP, roomP, foots_cons, foots_nil, foots_append, foot_pt, ptb, ptb_mapA, foot_mapA, factsP_mapA, foot_bun, List.append_nil, List.nil_append, List.cons_append, List.nodup_cons, List.nodup_nil, List.mem_cons, List.not_mem_nil, List.mem_singleton, List.forall_mem_cons, not_or, not_false_eq_true, and_true, true_and, or_false, false_or, forall_eq_or_imp, forall_eq, implies_true, Nat.zero_add, Nat.reduceAdd, and_assoc, foot_tabA, factsP_tabA, ptb_tabA] at cs
  go_wp2_with fail
  first | apply Mem.atCall | apply Mem.atCode | apply Mem.atList
  case h => repeat' (first | (with_reducible exact O) | (with_reducible apply Mem.drew) | (with_reducible apply Mem.drewN) | (with_reducible apply Mem.ext) | (with_reducible apply Mem.alloc) | (with_reducible apply Mem.setCell) | (simp only [ptb, ptb_upd, foots_cons, List.mem_cons, World.size_alloc, size_ext, World.size_setCell, true_or, or_true, eq_self_iff_true]))
  case' k =>
    intro w1' O'
    (try clear O)
    have O := O'
    clear O'
    (first | simp only [sel, rst, List.cons_append, List.nil_append, World.size_alloc, size_ext, World.size_setCell, size_setMap, World.size_drew, size_drewN, upd, List.set_cons_zero, List.set_cons_succ, if_true, reduceIte, not_false_eq_true, cs] at O | simp only [sel, rst, List.cons_append, List.nil_append, World.size_alloc, size_ext, World.size_setCell, size_setMap, World.size_drew, size_drewN, upd, List.set_cons_zero, List.set_cons_succ, if_true, reduceIte, not_false_eq_true] at O | skip)
    (try clear cs)
    (try clear v1)
    (try clear v2)
    (try clear v3)
  refine (m_New _ 1 (by omega)).mono ?_
  rintro e w2 ⟨rfl, o⟩
  replace O := O.callp [] o
  clear o
  simp only [put, List.cons_append, List.nil_append] at O
  have cs := O.facts
  simp only [factsP, cellsP, roomP, foots_cons, foots_nil, foots_append, foot_pt, ptb, ptb_mapA, foot_mapA, factsP_mapA, foot_bun, List.append_nil, List.nil_append, List.cons_append, List.nodup_cons, List.nodup_nil, List.mem_cons, List.not_mem_nil, List.mem_singleton, List.forall_mem_cons, not_or, not_false_eq_true, and_true, true_and, or_false, false_or, forall_eq_or_imp, forall_eq, implies_true, Nat.zero_add, Nat.reduceAdd, and_assoc, foot_tabA, factsP_tabA, ptb_tabA] at cs
  go_wp2_with fail
  first | apply Mem.atCall | apply Mem.atCode | apply Mem.atList
  case h => repeat' (first | (with_reducible exact O) | (with_reducible apply Mem.drew) | (with_reducible apply Mem.drewN) | (with_reducible apply Mem.ext) | (with_reducible apply Mem.alloc) | (with_reducible apply Mem.setCell) | (simp only [ptb, ptb_upd, foots_cons, List.mem_cons, World.size_alloc, size_ext, World.size_setCell, true_or, or_true, eq_self_iff_true]))
  case' k =>
    intro w2' O'
    (try clear O)
    have O := O'
    clear O'
    (first | simp only [sel, rst, List.cons_append, List.nil_append, World.size_alloc, size_ext, World.size_setCell, size_setMap, World.size_drew, size_drewN, upd, List.set_cons_zero, List.set_cons_succ, if_true, reduceIte, not_false_eq_true, cs] at O | simp only [sel, rst, List.cons_append, List.nil_append, World.size_alloc, size_ext, World.size_setCell, size_setMap, World.size_drew, size_drewN, upd, List.set_cons_zero, List.set_cons_succ, if_true, reduceIte, not_false_eq_true] at O | skip)
    (try clear cs)
    (try clear v1)
    (try clear v2)
    (try clear v3)
  refine (m_alive _).mono ?_
  rintro e w3 ⟨rfl, o⟩
  replace O := O.callp [] o
  clear o
  simp only [put, List.cons_append, List.nil_append] at O
  have cs := O.facts
  simp only [factsP, cellsP, roomP, foots_cons, foots_nil, foots_append, foot_pt, ptb, ptb_mapA, foot_mapA, factsP_mapA, foot_bun, List.append_nil, List.nil_append, List.cons_append, List.nodup_cons, List.nodup_nil, List.mem_cons, List.not_mem_nil, List.mem_singleton, List.forall_mem_cons, not_or, not_false_eq_true, and_true, true_and, or_false, false_or, forall_eq_or_imp, forall_eq, implies_true, Nat.zero_add, Nat.reduceAdd, and_assoc, foot_tabA, factsP_tabA, ptb_tabA] at cs
  go_wp2_with fail
  clear cs
  go_loopw [10] (fun s10 wr => ∃ (k : Nat) (m : Rows10), k ≤ l.length ∧ k ≤ 100 ∧ s10 = .int .i64 k ∧ Mem w [] wr [.pt w3.heap.size [.int .u64 3, .int .i64 9, .int .i64 0, .int .u32 0] 31, tabA (w1'.heap.size + 1) w1'.heap.size 1 [], tabA (w.heap.size + 1) w.heap.size 1 m] ∧ Hid (Just i3 (decide (0 < k)) m)) (fun s10 _ => l.length - (intOf s10).toNat)
  case atStart =>
    refine ⟨0, [], by omega, by omega, rfl, ?_, Lib.hid (by simp [Just])⟩
    repeat' (first | (with_reducible exact O) | (with_reducible apply Mem.drew) | (with_reducible apply Mem.drewN) | (with_reducible apply Mem.ext) | (with_reducible apply Mem.alloc) | (with_reducible apply Mem.setCell) | (simp only [ptb, ptb_upd, foots_cons, List.mem_cons, World.size_alloc, size_ext, World.size_setCell, true_or, or_true, eq_self_iff_true]))
  case round =>
    clear O
    obtain ⟨k, m, hk, hk100, rfl, O, HJ⟩ := hrel
    by_cases hlt : k < l.length ∧ k < 100
    case neg =>
      have C := Lib.hid (fun W h => m_Forget W (w.heap.size + 1) w.heap.size 1 m i3 h i3wf)
      rw [forget_just HJ.out] at C
      obtain ⟨g, hg⟩ : ∃ g : Int, g = (if decide (0 < k) = true then 0 else 102) := ⟨_, rfl⟩
      simp only [← hg] at C
      have hF : (g == 0) = decide (0 < l.length) := by
        rw [hg]
        by_cases h : 0 < k
        · have : 0 < l.length := by omega
          simp [h, this]
        · have : ¬ 0 < l.length := by omega
          simp [h, this]
      have hcase : (k < l.length ∧ ¬ k < 100) ∨ ¬ k < l.length := by omega
      clear hg HJ
      have cs := O.facts
      simp only [factsP, cellsP, roomP, foots_cons, foots_nil, foots_append, foot_pt, ptb, ptb_mapA, foot_mapA, factsP_mapA, foot_bun, List.append_nil, List.nil_append, List.cons_append, List.nodup_cons, List.nodup_nil, List.mem_cons, List.not_mem_nil, List.mem_singleton, List.forall_mem_cons, not_or, not_false_eq_true, and_true, true_and, or_false, false_or, forall_eq_or_imp, forall_eq, implies_true, Nat.zero_add, Nat.reduceAdd, and_assoc, foot_tabA, factsP_tabA, ptb_tabA] at cs
      go_upto_region 7 with fail
      go_cut [61] (fun s61 wc => s61 = .bool false ∧ Mem w [] wc [.pt w3.heap.size [.int .u64 3, .int .i64 9, .int .i64 0, .int .u32 0] 31, tabA (w1'.heap.size + 1) w1'.heap.size 1 [], tabA (w.heap.size + 1) w.heap.size 1 m])
      case first =>
        rcases hcase with ⟨h1, h2⟩ | h1
        all_goals
          go_wp2_with fail
          go_meet
          refine ⟨?_, O⟩
          first | rfl | (simp; omega)
      case rest =>
        clear O cs hcase hlt
        obtain ⟨rfl, O⟩ := hcut
        have cs := O.facts
        simp only [factsP, cellsP, roomP, foots_cons, foots_nil, foots_append, foot_pt, ptb, ptb_mapA, foot_mapA, factsP_mapA, foot_bun, List.append_nil, List.nil_append, List.cons_append, List.nodup_cons, List.nodup_nil, List.mem_cons, List.not_mem_nil, List.mem_singleton, List.forall_mem_cons, not_or, not_false_eq_true, and_true, true_and, or_false, false_or, forall_eq_or_imp, forall_eq, implies_true, Nat.zero_add, Nat.reduceAdd, and_assoc, foot_tabA, factsP_tabA, ptb_tabA] at cs
        go_wp2_with fail
        first | apply Mem.atCall | apply Mem.atCode | apply Mem.atList
        case h => repeat' (first | (with_reducible exact O) | (with_reducible apply Mem.drew) | (with_reducible apply Mem.drewN) | (with_reducible apply Mem.ext) | (with_reducible apply Mem.alloc) | (with_reducible apply Mem.setCell) | (simp only [ptb, ptb_upd, foots_cons, List.mem_cons, World.size_alloc, size_ext, World.size_setCell, true_or, or_true, eq_self_iff_true]))
        case' k =>
          intro w4 O'
          (try clear O)
          have O := O'
          clear O'
          (first | simp only [sel, rst, List.cons_append, List.nil_append, World.size_alloc, size_ext, World.size_setCell, size_setMap, World.size_drew, size_drewN, upd, List.set_cons_zero, List.set_cons_succ, if_true, reduceIte, not_false_eq_true, cs] at O | simp only [sel, rst, List.cons_append, List.nil_append, World.size_alloc, size_ext, World.size_setCell, size_setMap, World.size_drew, size_drewN, upd, List.set_cons_zero, List.set_cons_succ, if_true, reduceIte, not_false_eq_true] at O | skip)
          (try clear cs)
          (try clear v1)
          (try clear v2)
          (try clear v3)
        refine (C.out w4 (O.pre [false, false, true])).mono ?_
        rintro e w5 ⟨rfl, o⟩
        replace O := O.callp [false, false, true] o
        clear o
        simp only [put, List.cons_append, List.nil_append] at O
        have cs := O.facts
        simp only [factsP, cellsP, roomP, foots_cons, foots_nil, foots_append, foot_pt, ptb, ptb_mapA, foot_mapA, factsP_mapA, foot_bun, List.append_nil, List.nil_append, List.cons_append, List.nodup_cons, List.nodup_nil, List.mem_cons, List.not_mem_nil, List.mem_singleton, List.forall_mem_cons, not_or, not_false_eq_true, and_true, true_and, or_false, false_or, forall_eq_or_imp, forall_eq, implies_true, Nat.zero_add, Nat.reduceAdd, and_assoc, foot_tabA, factsP_tabA, ptb_tabA] at cs
        go_wp2_with fail
        first | apply Mem.atCall | apply Mem.atCode | apply Mem.atList
        case h => repeat' (first | (with_reducible exact O) | (with_reducible apply Mem.drew) | (with_reducible apply Mem.drewN) | (with_reducible apply Mem.ext) | (with_reducible apply Mem.alloc) | (with_reducible apply Mem.setCell) | (simp only [ptb, ptb_upd, foots_cons, List.mem_cons, World.size_alloc, size_ext, World.size_setCell, true_or, or_true, eq_self_iff_true]))
        case' k =>
          intro w6 O'
          (try clear O)
          have O := O'
          clear O'
          (first | simp only [sel, rst, List.cons_append, List.nil_append, World.size_alloc, size_ext, World.size_setCell, size_setMap, World.size_drew, size_drewN, upd, List.set_cons_zero, List.set_cons_succ, if_true, reduceIte, not_false_eq_true, cs] at O | simp only [sel, rst, List.cons_append, List.nil_append, World.size_alloc, size_ext, World.size_setCell, size_setMap, World.size_drew, size_drewN, upd, List.set_cons_zero, List.set_cons_succ, if_true, reduceIte, not_false_eq_true] at O | skip)
          (try clear cs)
          (try clear v1)
          (try clear v2)
          (try clear v3)
        refine (m_Count _ _ _ _ _ (O.pre [false, false, true])).mono ?_
        rintro e w7 ⟨rfl, o⟩
        replace O := O.callp [] o
        clear o
        simp only [put, List.cons_append, List.nil_append] at O
        have cs := O.facts
        simp only [factsP, cellsP, roomP, foots_cons, foots_nil, foots_append, foot_pt, ptb, ptb_mapA, foot_mapA, factsP_mapA, foot_bun, List.append_nil, List.nil_append, List.cons_append, List.nodup_cons, List.nodup_nil, List.mem_cons, List.not_mem_nil, List.mem_singleton, List.forall_mem_cons, not_or, not_false_eq_true, and_true, true_and, or_false, false_or, forall_eq_or_imp, forall_eq, implies_true, Nat.zero_add, Nat.reduceAdd, and_assoc, foot_tabA, factsP_tabA, ptb_tabA] at cs
        go_wp2_with fail
        clear cs C
        go_loopw [12] (fun s12 wr => ∃ (k : Nat) (m : Rows10), k ≤ l2.length ∧ s12 = .int .i64 k ∧ Mem w [] wr [.pt w3.heap.size [.int .u64 3, .int .i64 9, .int .i64 0, .int .u32 0] 31, tabA (w1'.heap.size + 1) w1'.heap.size 1 m, tabA (w.heap.size + 1) w.heap.size 1 m]) (fun s12 _ => l2.length - (intOf s12).toNat)
        case atStart => exact ⟨0, [], by omega, rfl, O⟩
        case round =>
          clear O
          obtain ⟨k, m, hk, rfl, O⟩ := hrel
          by_cases hlt : k < l2.length ∧ k < 100
          case neg =>
            have hcase : (k < l2.length ∧ ¬ k < 100) ∨ ¬ k < l2.length := by omega
            rcases hcase with ⟨h1, h2⟩ | h1
            all_goals
              have cs := O.facts
              simp only [factsP, cellsP, roomP, foots_cons, foots_nil, foots_append, foot_pt, ptb, ptb_mapA, foot_mapA, factsP_mapA, foot_bun, List.append_nil, List.nil_append, List.cons_append, List.nodup_cons, List.nodup_nil, List.mem_cons, List.not_mem_nil, List.mem_singleton, List.forall_mem_cons, not_or, not_false_eq_true, and_true, true_and, or_false, false_or, forall_eq_or_imp, forall_eq, implies_true, Nat.zero_add, Nat.reduceAdd, and_assoc, foot_tabA, factsP_tabA, ptb_tabA] at cs
              go_wp2_with fail
              first | apply Mem.atCall | apply Mem.atCode | apply Mem.atList
              case h => repeat' (first | (with_reducible exact O) | (with_reducible apply Mem.drew) | (with_reducible apply Mem.drewN) | (with_reducible apply Mem.ext) | (with_reducible apply Mem.alloc) | (with_reducible apply Mem.setCell) | (simp only [ptb, ptb_upd, foots_cons, List.mem_cons, World.size_alloc, size_ext, World.size_setCell, true_or, or_true, eq_self_iff_true]))
              case' k =>
                intro w4 O'
                (try clear O)
                have O := O'
                clear O'
                (first | simp only [sel, rst, List.cons_append, List.nil_append, World.size_alloc, size_ext, World.size_setCell, size_setMap, World.size_drew, size_drewN, upd, List.set_cons_zero, List.set_cons_succ, if_true, reduceIte, not_false_eq_true, cs] at O | simp only [sel, rst, List.cons_append, List.nil_append, World.size_alloc, size_ext, World.size_setCell, size_setMap, World.size_drew, size_drewN, upd, List.set_cons_zero, List.set_cons_succ, if_true, reduceIte, not_false_eq_true] at O | skip)
                (try clear cs)
                (try clear v1)
                (try clear v2)
                (try clear v3)
              refine (m_Count _ _ _ _ _ (O.pre [false, false, true])).mono ?_
              rintro e w5 ⟨rfl, o⟩
              replace O := O.callp [] o
              clear o
              simp only [put, List.cons_append, List.nil_append] at O
              have cs := O.facts
              simp only [factsP, cellsP, roomP, foots_cons, foots_nil, foots_append, foot_pt, ptb, ptb_mapA, foot_mapA, factsP_mapA, foot_bun, List.append_nil, List.nil_append, List.cons_append, List.nodup_cons, List.nodup_nil, List.mem_cons, List.not_mem_nil, List.mem_singleton, List.forall_mem_cons, not_or, not_false_eq_true, and_true, true_and, or_false, false_or, forall_eq_or_imp, forall_eq, implies_true, Nat.zero_add, Nat.reduceAdd, and_assoc, foot_tabA, factsP_tabA, ptb_tabA] at cs
              go_wp2_with fail
              first | apply Mem.atCall | apply Mem.atCode | apply Mem.atList
              case h => repeat' (first | (with_reducible exact O) | (with_reducible apply Mem.drew) | (with_reducible apply Mem.drewN) | (with_reducible apply Mem.ext) | (with_reducible apply Mem.alloc) | (with_reducible apply Mem.setCell) | (simp only [ptb, ptb_upd, foots_cons, List.mem_cons, World.size_alloc, size_ext, World.size_setCell, true_or, or_true, eq_self_iff_true]))
              case' k =>
                intro w6 O'
                (try clear O)
                have O := O'
                clear O'
                (first | simp only [sel, rst, List.cons_append, List.nil_append, World.size_alloc, size_ext, World.size_setCell, size_setMap, World.size_drew, size_drewN, upd, List.set_cons_zero, List.set_cons_succ, if_true, reduceIte, not_false_eq_true, cs] at O | simp only [sel, rst, List.cons_append, List.nil_append, World.size_alloc, size_ext, World.size_setCell, size_setMap, World.size_drew, size_drewN, upd, List.set_cons_zero, List.set_cons_succ, if_true, reduceIte, not_false_eq_true] at O | skip)
                (try clear cs)
                (try clear v1)
                (try clear v2)
                (try clear v3)
              refine (m_Count _ _ _ _ _ (O.pre [false, true, false])).mono ?_
              rintro e w7 ⟨rfl, o⟩
              replace O := O.callp [] o
              clear o
              simp only [put, List.cons_append, List.nil_append] at O
              have cs := O.facts
              simp only [factsP, cellsP, roomP, foots_cons, foots_nil, foots_append, foot_pt, ptb, ptb_mapA, foot_mapA, factsP_mapA, foot_bun, List.append_nil, List.nil_append, List.cons_append, List.nodup_cons, List.nodup_nil, List.mem_cons, List.not_mem_nil, List.mem_singleton, List.forall_mem_cons, not_or, not_false_eq_true, and_true, true_and, or_false, false_or, forall_eq_or_imp, forall_eq, implies_true, Nat.zero_add, Nat.reduceAdd, and_assoc, foot_tabA, factsP_tabA, ptb_tabA] at cs
              go_wp2_with fail
              go_ret
              exact ⟨by simp, O.fr.below rfl⟩
          obtain ⟨hlt, h100⟩ := hlt
          obtain ⟨⟨_, hbr⟩, b, off, rfl, hbb, c0, _, _, _, _, c5, c6, c7⟩ := HC2.out k _ (List.getElem?_eq_getElem hlt)
          generalize l2[k] = o at *
          obtain ⟨ok, oi, ⟨br, bn⟩, ov⟩ := o
          simp only at hbr c0 c5 c6 c7
          have V2 := Lib.hid (fun W (h : Fr [] w W) => And.intro ((h.cell hbb).trans c0) (And.intro ((h.cell hbb).trans c5) (And.intro ((h.cell hbb).trans c6) ((h.cell hbb).trans c7))))
          clear c0 c5 c6 c7
          skip
          by_cases hk1 : ok = 1
          · subst hk1
            generalize hpp : prepare10 1 m i3 ⟨br, bn⟩ = pp
            obtain ⟨⟨pai, ⟨par, pan⟩, pav⟩, ⟨pbr, pbn⟩, pm, pe, m1⟩ := pp
            have D := Lib.hid (fun W tb mb h => m_Prepare W tb mb 1 m i3 ⟨br, bn⟩ h i3wf)
            rw [hpp] at D
            simp only [Acc.val, Ballot.val] at D
            clear hpp
            have cs := O.facts
            simp only [factsP, cellsP, roomP, foots_cons, foots_nil, foots_append, foot_pt, ptb, ptb_mapA, foot_mapA, factsP_mapA, foot_bun, List.append_nil, List.nil_append, List.cons_append, List.nodup_cons, List.nodup_nil, List.mem_cons, List.not_mem_nil, List.mem_singleton, List.forall_mem_cons, not_or, not_false_eq_true, and_true, true_and, or_false, false_or, forall_eq_or_imp, forall_eq, implies_true, Nat.zero_add, Nat.reduceAdd, and_assoc, foot_tabA, factsP_tabA, ptb_tabA] at cs
            have v1 := V2.out _ O.fr
            go_wp2_with fail
            go_cut [13, 14, 15, 16] (fun s13 s14 s15 s16 wc => ∃ pA pB : Nat, s13 = .pointer (some ⟨pA, 0, none⟩) ∧ s14 = .pointer (some ⟨pB, 0, none⟩) ∧ s15 = .bool pm ∧ s16 = .int .i64 pe ∧
              Mem w [] wc [.pt pA [.bool pai, .int .u32 par, .int .u8 pan, .string pav] 35, .pt pB [.int .u32 pbr, .int .u8 pbn] 33, .pt w3.heap.size [.int .u64 3, .int .i64 9, .int .i64 0, .int .u32 0] 31, tabA (w1'.heap.size + 1) w1'.heap.size 1 m, tabA (w.heap.size + 1) w.heap.size 1 m1])
            case first =>
              apply region_held_mem [true, false, false] (by kernel_rfl)
              case O => repeat' (first | (with_reducible exact O) | (with_reducible apply Mem.drew) | (with_reducible apply Mem.drewN) | (with_reducible apply Mem.ext) | (with_reducible apply Mem.alloc) | (with_reducible apply Mem.setCell) | (simp only [ptb, ptb_upd, foots_cons, List.mem_cons, World.size_alloc, size_ext, World.size_setCell, true_or, or_true, eq_self_iff_true]))
              case' h =>
                intro wr1 O'
                (try clear O)
                have O := O'
                clear O'
                (first | simp only [sel, rst, List.cons_append, List.nil_append, World.size_alloc, size_ext, World.size_setCell, size_setMap, World.size_drew, size_drewN, upd, List.set_cons_zero, List.set_cons_succ, if_true, reduceIte, not_false_eq_true, cs] at O | simp only [sel, rst, List.cons_append, List.nil_append, World.size_alloc, size_ext, World.size_setCell, size_setMap, World.size_drew, size_drewN, upd, List.set_cons_zero, List.set_cons_succ, if_true, reduceIte, not_false_eq_true] at O | skip)
                (try clear cs)
                (try clear v1)
                (try clear v2)
                (try clear v3)
              refine takeH (i := 0) (v := ?v1_1) rfl (by kernel_rfl) (by kernel_rfl) (by kernel_rfl) (fun _ _ _ h => h) (by rfl) ?y1_1 (O.sel [true, false, false]) ?r1_1
              case y1_1 =>
                intro WW hSw
                (go_simp) <;> (with_reducible rfl)
              case' r1_1 =>
                try simp only [Act.put, List.setIfInBounds_toArray, List.set_cons_zero, List.set_cons_succ]
              refine takeH (i := 1) (v := ?v1_2) rfl (by kernel_rfl) (by kernel_rfl) (by kernel_rfl) (fun _ _ _ h => h) (by rfl) ?y1_2 (O.sel [true, false, false]) ?r1_2
              case y1_2 =>
                intro WW hSw
                replace hSw : Mem _ _ WW _ := hSw
                have cs := hSw.facts
                simp only [sel, factsP, cellsP, roomP, foots_cons, foots_nil, foots_append, foot_pt, ptb, ptb_mapA, foot_mapA, factsP_mapA, foot_bun, List.append_nil, List.nil_append, List.cons_append, List.nodup_cons, List.nodup_nil, List.mem_cons, List.not_mem_nil, List.mem_singleton, List.forall_mem_cons, not_or, not_false_eq_true, and_true, true_and, or_false, false_or, forall_eq_or_imp, forall_eq, implies_true, Nat.zero_add, Nat.reduceAdd, and_assoc, foot_tabA, factsP_tabA, ptb_tabA] at cs
                have v1 := V2.out _ hSw.fr
                (go_simp) <;> (with_reducible rfl)
              case' r1_2 =>
                try simp only [Act.put, List.setIfInBounds_toArray, List.set_cons_zero, List.set_cons_succ]
              refine takeH (i := 2) (v := ?v1_3) rfl (by kernel_rfl) (by kernel_rfl) (by kernel_rfl) (fun _ _ _ h => h) (by rfl) ?y1_3 (O.sel [true, false, false]) ?r1_3
              case y1_3 =>
                intro WW hSw
                (go_simp) <;> (with_reducible rfl)
              case' r1_3 =>
                try simp only [Act.put, List.setIfInBounds_toArray, List.set_cons_zero, List.set_cons_succ]
              refine takeH (i := 3) (v := ?v1_4) rfl (by kernel_rfl) (by kernel_rfl) (by kernel_rfl) (fun _ _ _ h => h) (by rfl) ?y1_4 (O.sel [true, false, false]) ?r1_4
              case y1_4 =>
                intro WW hSw
                (go_simp) <;> (with_reducible rfl)
              case' r1_4 =>
                try simp only [Act.put, List.setIfInBounds_toArray, List.set_cons_zero, List.set_cons_succ]
              refine takeH (i := 4) (v := ?v1_5) rfl (by kernel_rfl) (by kernel_rfl) (by kernel_rfl) (fun _ _ _ h => h) (by rfl) ?y1_5 (O.sel [true, false, false]) ?r1_5
              case y1_5 =>
                intro WW hSw
                replace hSw : Mem _ _ WW _ := hSw
                have cs := hSw.facts
                simp only [sel, factsP, cellsP, roomP, foots_cons, foots_nil, foots_append, foot_pt, ptb, ptb_mapA, foot_mapA, factsP_mapA, foot_bun, List.append_nil, List.nil_append, List.cons_append, List.nodup_cons, List.nodup_nil, List.mem_cons, List.not_mem_nil, List.mem_singleton, List.forall_mem_cons, not_or, not_false_eq_true, and_true, true_and, or_false, false_or, forall_eq_or_imp, forall_eq, implies_true, Nat.zero_add, Nat.reduceAdd, and_assoc, foot_tabA, factsP_tabA, ptb_tabA] at cs
                have v1 := V2.out _ hSw.fr
                (go_simp) <;> (with_reducible rfl)
              case' r1_5 =>
                try simp only [Act.put, List.setIfInBounds_toArray, List.set_cons_zero, List.set_cons_succ]
              refine takeH (i := 5) (v := ?v1_6) rfl (by kernel_rfl) (by kernel_rfl) (by kernel_rfl) (fun _ _ _ h => h) (by rfl) ?y1_6 (O.sel [true, false, false]) ?r1_6
              case y1_6 =>
                intro WW hSw
                (go_simp) <;> (with_reducible rfl)
              case' r1_6 =>
                try simp only [Act.put, List.setIfInBounds_toArray, List.set_cons_zero, List.set_cons_succ]
              refine takeH (i := 6) (v := ?v1_7) rfl (by kernel_rfl) (by kernel_rfl) (by kernel_rfl) (fun _ _ _ h => h) (by rfl) ?y1_7 (O.sel [true, false, false]) ?r1_7
              case y1_7 =>
                intro WW hSw
                replace hSw : Mem _ _ WW _ := hSw
                have cs := hSw.facts
                simp only [sel, factsP, cellsP, roomP, foots_cons, foots_nil, foots_append, foot_pt, ptb, ptb_mapA, foot_mapA, factsP_mapA, foot_bun, List.append_nil, List.nil_append, List.cons_append, List.nodup_cons, List.nodup_nil, List.mem_cons, List.not_mem_nil, List.mem_singleton, List.forall_mem_cons, not_or, not_false_eq_true, and_true, true_and, or_false, false_or, forall_eq_or_imp, forall_eq, implies_true, Nat.zero_add, Nat.reduceAdd, and_assoc, foot_tabA, factsP_tabA, ptb_tabA] at cs
                have v1 := V2.out _ hSw.fr
                (go_simp) <;> (with_reducible rfl)
              case' r1_7 =>
                try simp only [Act.put, List.setIfInBounds_toArray, List.set_cons_zero, List.set_cons_succ]
              apply cutT2
              case main =>
                intro hT1_0
                apply cutT1
                case main =>
                  intro hT1_1
                  apply cutT1
                  case main =>
                    intro hT1_2
                    apply cutT2
                    case main =>
                      intro hT1_3
                      refine wpAnyH_ready (rs := [7, 13, 14]) (by kernel_rfl) (by simp) ?_
                      refine consH rfl (fun K hK => ?_) ?_
                      · have cs := O.facts
                        simp only [factsP, cellsP, roomP, foots_cons, foots_nil, foots_append, foot_pt, ptb, ptb_mapA, foot_mapA, factsP_mapA, foot_bun, List.append_nil, List.nil_append, List.cons_append, List.nodup_cons, List.nodup_nil, List.mem_cons, List.not_mem_nil, List.mem_singleton, List.forall_mem_cons, not_or, not_false_eq_true, and_true, true_and, or_false, false_or, forall_eq_or_imp, forall_eq, implies_true, Nat.zero_add, Nat.reduceAdd, and_assoc, foot_tabA, factsP_tabA, ptb_tabA] at cs
                        have v1 := V2.out _ O.fr
                        go_simp
                        apply Mem.atCall
                        case h => repeat' (first | (with_reducible exact O) | (with_reducible apply Mem.drew) | (with_reducible apply Mem.drewN) | (with_reducible apply Mem.ext) | (with_reducible apply Mem.alloc) | (with_reducible apply Mem.setCell) | (simp only [ptb, ptb_upd, foots_cons, List.mem_cons, World.size_alloc, size_ext, World.size_setCell, true_or, or_true, eq_self_iff_true]))
                        intro w1_8 O'
                        (try clear O)
                        have O := O'
                        clear O'
                        (first | simp only [sel, rst, List.cons_append, List.nil_append, World.size_alloc, size_ext, World.size_setCell, size_setMap, World.size_drew, size_drewN, upd, List.set_cons_zero, List.set_cons_succ, if_true, reduceIte, not_false_eq_true, cs] at O | simp only [sel, rst, List.cons_append, List.nil_append, World.size_alloc, size_ext, World.size_setCell, size_setMap, World.size_drew, size_drewN, upd, List.set_cons_zero, List.set_cons_succ, if_true, reduceIte, not_false_eq_true] at O | skip)
                        (try clear cs)
                        (try clear v1)
                        (try clear v2)
                        (try clear v3)
                        refine (D.out _ _ _ (O.pre [false, false, true])).mono ?_
                        rintro e w1_8' ⟨rfl, o⟩
                        replace O := O.callp [false, false, true] o
                        clear o
                        simp only [put, List.cons_append, List.nil_append] at O
                        go_wp2_with fail
                        refine hK.out _ _ (O.sel [true, false, false]) (fun _ => ?_)
                        clear hK K
                        refine takeH (i := 8) (v := ?v1_9) rfl (by kernel_rfl) (by kernel_rfl) (by kernel_rfl) (fun _ _ _ h => h) (by rfl) ?y1_9 (O.sel [true, false, false]) ?r1_9
                        case y1_9 =>
                          intro WW hSw
                          (go_simp) <;> (with_reducible rfl)
                        case' r1_9 =>
                          try simp only [Act.put, List.setIfInBounds_toArray, List.set_cons_zero, List.set_cons_succ]
                        refine takeH (i := 9) (v := ?v1_10) rfl (by kernel_rfl) (by kernel_rfl) (by kernel_rfl) (fun _ _ _ h => h) (by rfl) ?y1_10 (O.sel [true, false, false]) ?r1_10
                        case y1_10 =>
                          intro WW hSw
                          (go_simp) <;> (with_reducible rfl)
                        case' r1_10 =>
                          try simp only [Act.put, List.setIfInBounds_toArray, List.set_cons_zero, List.set_cons_succ]
                        refine takeH (i := 10) (v := ?v1_11) rfl (by kernel_rfl) (by kernel_rfl) (by kernel_rfl) (fun _ _ _ h => h) (by rfl) ?y1_11 (O.sel [true, false, false]) ?r1_11
                        case y1_11 =>
                          intro WW hSw
                          (go_simp) <;> (with_reducible rfl)
                        case' r1_11 =>
                          try simp only [Act.put, List.setIfInBounds_toArray, List.set_cons_zero, List.set_cons_succ]
                        refine takeH (i := 11) (v := ?v1_12) rfl (by kernel_rfl) (by kernel_rfl) (by kernel_rfl) (fun _ _ _ h => h) (by rfl) ?y1_12 (O.sel [true, false, false]) ?r1_12
                        case y1_12 =>
                          intro WW hSw
                          (go_simp) <;> (with_reducible rfl)
                        case' r1_12 =>
                          try simp only [Act.put, List.setIfInBounds_toArray, List.set_cons_zero, List.set_cons_succ]
                        refine takeH (i := 12) (v := ?v1_13) rfl (by kernel_rfl) (by kernel_rfl) (by kernel_rfl) (fun _ _ _ h => h) (by rfl) ?y1_13 (O.sel [true, false, false]) ?r1_13
                        case y1_13 =>
                          intro WW hSw
                          (go_simp) <;> (with_reducible rfl)
                        case' r1_13 =>
                          try simp only [Act.put, List.setIfInBounds_toArray, List.set_cons_zero, List.set_cons_succ]
                        refine wpAnyH_ready (rs := [13, 14]) (by kernel_rfl) (by simp) ?_
                        refine consH rfl (fun K hK => ?_) ?_
                        · have cs := O.facts
                          simp only [factsP, cellsP, roomP, foots_cons, foots_nil, foots_append, foot_pt, ptb, ptb_mapA, foot_mapA, factsP_mapA, foot_bun, List.append_nil, List.nil_append, List.cons_append, List.nodup_cons, List.nodup_nil, List.mem_cons, List.not_mem_nil, List.mem_singleton, List.forall_mem_cons, not_or, not_false_eq_true, and_true, true_and, or_false, false_or, forall_eq_or_imp, forall_eq, implies_true, Nat.zero_add, Nat.reduceAdd, and_assoc, foot_tabA, factsP_tabA, ptb_tabA] at cs
                          have v1 := V2.out _ O.fr
                          go_simp
                          apply Mem.atK
                          case h => repeat' (first | (with_reducible exact O) | (with_reducible apply Mem.drew) | (with_reducible apply Mem.drewN) | (with_reducible apply Mem.ext) | (with_reducible apply Mem.alloc) | (with_reducible apply Mem.setCell) | (simp only [ptb, ptb_upd, foots_cons, List.mem_cons, World.size_alloc, size_ext, World.size_setCell, true_or, or_true, eq_self_iff_true]))
                          intro w1_14 O'
                          (try clear O)
                          have O := O'
                          clear O'
                          (first | simp only [sel, rst, List.cons_append, List.nil_append, World.size_alloc, size_ext, World.size_setCell, size_setMap, World.size_drew, size_drewN, upd, List.set_cons_zero, List.set_cons_succ, if_true, reduceIte, not_false_eq_true, cs] at O | simp only [sel, rst, List.cons_append, List.nil_append, World.size_alloc, size_ext, World.size_setCell, size_setMap, World.size_drew, size_drewN, upd, List.set_cons_zero, List.set_cons_succ, if_true, reduceIte, not_false_eq_true] at O | skip)
                          (try clear cs)
                          (try clear v1)
                          (try clear v2)
                          (try clear v3)
                          generalize w1_8'.heap.size = p1_15 at O ⊢
                          refine hK.out _ _ (O.sel [false, true, false, false]) (fun _ => ?_)
                          clear hK K
                          revert O
                          exact hT1_1.out p1_15 w1_14
                        refine consH rfl (fun K hK => ?_) ?_
                        · have cs := O.facts
                          simp only [factsP, cellsP, roomP, foots_cons, foots_nil, foots_append, foot_pt, ptb, ptb_mapA, foot_mapA, factsP_mapA, foot_bun, List.append_nil, List.nil_append, List.cons_append, List.nodup_cons, List.nodup_nil, List.mem_cons, List.not_mem_nil, List.mem_singleton, List.forall_mem_cons, not_or, not_false_eq_true, and_true, true_and, or_false, false_or, forall_eq_or_imp, forall_eq, implies_true, Nat.zero_add, Nat.reduceAdd, and_assoc, foot_tabA, factsP_tabA, ptb_tabA] at cs
                          have v1 := V2.out _ O.fr
                          go_simp
                          apply Mem.atK
                          case h => repeat' (first | (with_reducible exact O) | (with_reducible apply Mem.drew) | (with_reducible apply Mem.drewN) | (with_reducible apply Mem.ext) | (with_reducible apply Mem.alloc) | (with_reducible apply Mem.setCell) | (simp only [ptb, ptb_upd, foots_cons, List.mem_cons, World.size_alloc, size_ext, World.size_setCell, true_or, or_true, eq_self_iff_true]))
                          intro w1_16 O'
                          (try clear O)
                          have O := O'
                          clear O'
                          (first | simp only [sel, rst, List.cons_append, List.nil_append, World.size_alloc, size_ext, World.size_setCell, size_setMap, World.size_drew, size_drewN, upd, List.set_cons_zero, List.set_cons_succ, if_true, reduceIte, not_false_eq_true, cs] at O | simp only [sel, rst, List.cons_append, List.nil_append, World.size_alloc, size_ext, World.size_setCell, size_setMap, World.size_drew, size_drewN, upd, List.set_cons_zero, List.set_cons_succ, if_true, reduceIte, not_false_eq_true] at O | skip)
                          (try clear cs)
                          (try clear v1)
                          (try clear v2)
                          (try clear v3)
                          generalize w1_8'.heap.size = p1_17 at O ⊢
                          refine hK.out _ _ (O.sel [false, true, false, false]) (fun _ => ?_)
                          clear hK K
                          revert O
                          exact hT1_2.out p1_17 w1_16
                        exact AllReadyH.nil
                      refine consH rfl (fun K hK => ?_) ?_
                      · have cs := O.facts
                        simp only [factsP, cellsP, roomP, foots_cons, foots_nil, foots_append, foot_pt, ptb, ptb_mapA, foot_mapA, factsP_mapA, foot_bun, List.append_nil, List.nil_append, List.cons_append, List.nodup_cons, List.nodup_nil, List.mem_cons, List.not_mem_nil, List.mem_singleton, List.forall_mem_cons, not_or, not_false_eq_true, and_true, true_and, or_false, false_or, forall_eq_or_imp, forall_eq, implies_true, Nat.zero_add, Nat.reduceAdd, and_assoc, foot_tabA, factsP_tabA, ptb_tabA] at cs
                        have v1 := V2.out _ O.fr
                        go_simp
                        apply Mem.atK
                        case h => repeat' (first | (with_reducible exact O) | (with_reducible apply Mem.drew) | (with_reducible apply Mem.drewN) | (with_reducible apply Mem.ext) | (with_reducible apply Mem.alloc) | (with_reducible apply Mem.setCell) | (simp only [ptb, ptb_upd, foots_cons, List.mem_cons, World.size_alloc, size_ext, World.size_setCell, true_or, or_true, eq_self_iff_true]))
                        intro w1_18 O'
                        (try clear O)
                        have O := O'
                        clear O'
                        (first | simp only [sel, rst, List.cons_append, List.nil_append, World.size_alloc, size_ext, World.size_setCell, size_setMap, World.size_drew, size_drewN, upd, List.set_cons_zero, List.set_cons_succ, if_true, reduceIte, not_false_eq_true, cs] at O | simp only [sel, rst, List.cons_append, List.nil_append, World.size_alloc, size_ext, World.size_setCell, size_setMap, World.size_drew, size_drewN, upd, List.set_cons_zero, List.set_cons_succ, if_true, reduceIte, not_false_eq_true] at O | skip)
                        (try clear cs)
                        (try clear v1)
                        (try clear v2)
                        (try clear v3)
                        generalize wr1.heap.size = p1_19 at O ⊢
                        refine hK.out _ _ (O.sel [false, true, false, false]) (fun _ => ?_)
                        clear hK K
                        refine wpAnyH_ready (rs := [7, 14]) (by kernel_rfl) (by simp) ?_
                        refine consH rfl (fun K hK => ?_) ?_
                        · have cs := O.facts
                          simp only [factsP, cellsP, roomP, foots_cons, foots_nil, foots_append, foot_pt, ptb, ptb_mapA, foot_mapA, factsP_mapA, foot_bun, List.append_nil, List.nil_append, List.cons_append, List.nodup_cons, List.nodup_nil, List.mem_cons, List.not_mem_nil, List.mem_singleton, List.forall_mem_cons, not_or, not_false_eq_true, and_true, true_and, or_false, false_or, forall_eq_or_imp, forall_eq, implies_true, Nat.zero_add, Nat.reduceAdd, and_assoc, foot_tabA, factsP_tabA, ptb_tabA] at cs
                          have v1 := V2.out _ O.fr
                          go_simp
                          apply Mem.atCall
                          case h => repeat' (first | (with_reducible exact O) | (with_reducible apply Mem.drew) | (with_reducible apply Mem.drewN) | (with_reducible apply Mem.ext) | (with_reducible apply Mem.alloc) | (with_reducible apply Mem.setCell) | (simp only [ptb, ptb_upd, foots_cons, List.mem_cons, World.size_alloc, size_ext, World.size_setCell, true_or, or_true, eq_self_iff_true]))
                          intro w1_20 O'
                          (try clear O)
                          have O := O'
                          clear O'
                          (first | simp only [sel, rst, List.cons_append, List.nil_append, World.size_alloc, size_ext, World.size_setCell, size_setMap, World.size_drew, size_drewN, upd, List.set_cons_zero, List.set_cons_succ, if_true, reduceIte, not_false_eq_true, cs] at O | simp only [sel, rst, List.cons_append, List.nil_append, World.size_alloc, size_ext, World.size_setCell, size_setMap, World.size_drew, size_drewN, upd, List.set_cons_zero, List.set_cons_succ, if_true, reduceIte, not_false_eq_true] at O | skip)
                          (try clear cs)
                          (try clear v1)
                          (try clear v2)
                          (try clear v3)
                          refine (D.out _ _ _ (O.pre [false, false, false, true])).mono ?_
                          rintro e w1_20' ⟨rfl, o⟩
                          replace O := O.callp [false, false, false, true] o
                          clear o
                          simp only [put, List.cons_append, List.nil_append] at O
                          go_wp2_with fail
                          refine hK.out _ _ (O.sel [false, true, false, false]) (fun _ => ?_)
                          clear hK K
                          refine takeH (i := 8) (v := ?v1_21) rfl (by kernel_rfl) (by kernel_rfl) (by kernel_rfl) (fun _ _ _ h => h) (by rfl) ?y1_21 (O.sel [false, true, false, false]) ?r1_21
                          case y1_21 =>
                            intro WW hSw
                            (go_simp) <;> (with_reducible rfl)
                          case' r1_21 =>
                            try simp only [Act.put, List.setIfInBounds_toArray, List.set_cons_zero, List.set_cons_succ]
                          refine takeH (i := 9) (v := ?v1_22) rfl (by kernel_rfl) (by kernel_rfl) (by kernel_rfl) (fun _ _ _ h => h) (by rfl) ?y1_22 (O.sel [false, true, false, false]) ?r1_22
                          case y1_22 =>
                            intro WW hSw
                            (go_simp) <;> (with_reducible rfl)
                          case' r1_22 =>
                            try simp only [Act.put, List.setIfInBounds_toArray, List.set_cons_zero, List.set_cons_succ]
                          refine takeH (i := 10) (v := ?v1_23) rfl (by kernel_rfl) (by kernel_rfl) (by kernel_rfl) (fun _ _ _ h => h) (by rfl) ?y1_23 (O.sel [false, true, false, false]) ?r1_23
                          case y1_23 =>
                            intro WW hSw
                            (go_simp) <;> (with_reducible rfl)
                          case' r1_23 =>
                            try simp only [Act.put, List.setIfInBounds_toArray, List.set_cons_zero, List.set_cons_succ]
                          refine takeH (i := 11) (v := ?v1_24) rfl (by kernel_rfl) (by kernel_rfl) (by kernel_rfl) (fun _ _ _ h => h) (by rfl) ?y1_24 (O.sel [false, true, false, false]) ?r1_24
                          case y1_24 =>
                            intro WW hSw
                            (go_simp) <;> (with_reducible rfl)
                          case' r1_24 =>
                            try simp only [Act.put, List.setIfInBounds_toArray, List.set_cons_zero, List.set_cons_succ]
                          refine takeH (i := 12) (v := ?v1_25) rfl (by kernel_rfl) (by kernel_rfl) (by kernel_rfl) (fun _ _ _ h => h) (by rfl) ?y1_25 (O.sel [false, true, false, false]) ?r1_25
                          case y1_25 =>
                            intro WW hSw
                            (go_simp) <;> (with_reducible rfl)
                          case' r1_25 =>
                            try simp only [Act.put, List.setIfInBounds_toArray, List.set_cons_zero, List.set_cons_succ]
                          revert O
                          exact hT1_1.out p1_19 w1_20'
                        refine consH rfl (fun K hK => ?_) ?_
                        · have cs := O.facts
                          simp only [factsP, cellsP, roomP, foots_cons, foots_nil, foots_append, foot_pt, ptb, ptb_mapA, foot_mapA, factsP_mapA, foot_bun, List.append_nil, List.nil_append, List.cons_append, List.nodup_cons, List.nodup_nil, List.mem_cons, List.not_mem_nil, List.mem_singleton, List.forall_mem_cons, not_or, not_false_eq_true, and_true, true_and, or_false, false_or, forall_eq_or_imp, forall_eq, implies_true, Nat.zero_add, Nat.reduceAdd, and_assoc, foot_tabA, factsP_tabA, ptb_tabA] at cs
                          have v1 := V2.out _ O.fr
                          go_simp
                          apply Mem.atK
                          case h => repeat' (first | (with_reducible exact O) | (with_reducible apply Mem.drew) | (with_reducible apply Mem.drewN) | (with_reducible apply Mem.ext) | (with_reducible apply Mem.alloc) | (with_reducible apply Mem.setCell) | (simp only [ptb, ptb_upd, foots_cons, List.mem_cons, World.size_alloc, size_ext, World.size_setCell, true_or, or_true, eq_self_iff_true]))
                          intro w1_26 O'
                          (try clear O)
                          have O := O'
                          clear O'
                          (first | simp only [sel, rst, List.cons_append, List.nil_append, World.size_alloc, size_ext, World.size_setCell, size_setMap, World.size_drew, size_drewN, upd, List.set_cons_zero, List.set_cons_succ, if_true, reduceIte, not_false_eq_true, cs] at O | simp only [sel, rst, List.cons_append, List.nil_append, World.size_alloc, size_ext, World.size_setCell, size_setMap, World.size_drew, size_drewN, upd, List.set_cons_zero, List.set_cons_succ, if_true, reduceIte, not_false_eq_true] at O | skip)
                          (try clear cs)
                          (try clear v1)
                          (try clear v2)
                          (try clear v3)
                          generalize w1_18.heap.size = p1_27 at O ⊢
                          refine hK.out _ _ (O.sel [false, false, true, false, false]) (fun _ => ?_)
                          clear hK K
                          revert O
                          exact hT1_3.out p1_27 p1_19 w1_26
                        exact AllReadyH.nil
                      refine consH rfl (fun K hK => ?_) ?_
                      · have cs := O.facts
                        simp only [factsP, cellsP, roomP, foots_cons, foots_nil, foots_append, foot_pt, ptb, ptb_mapA, foot_mapA, factsP_mapA, foot_bun, List.append_nil, List.nil_append, List.cons_append, List.nodup_cons, List.nodup_nil, List.mem_cons, List.not_mem_nil, List.mem_singleton, List.forall_mem_cons, not_or, not_false_eq_true, and_true, true_and, or_false, false_or, forall_eq_or_imp, forall_eq, implies_true, Nat.zero_add, Nat.reduceAdd, and_assoc, foot_tabA, factsP_tabA, ptb_tabA] at cs
                        have v1 := V2.out _ O.fr
                        go_simp
                        apply Mem.atK
                        case h => repeat' (first | (with_reducible exact O) | (with_reducible apply Mem.drew) | (with_reducible apply Mem.drewN) | (with_reducible apply Mem.ext) | (with_reducible apply Mem.alloc) | (with_reducible apply Mem.setCell) | (simp only [ptb, ptb_upd, foots_cons, List.mem_cons, World.size_alloc, size_ext, World.size_setCell, true_or, or_true, eq_self_iff_true]))
                        intro w1_28 O'
                        (try clear O)
                        have O := O'
                        clear O'
                        (first | simp only [sel, rst, List.cons_append, List.nil_append, World.size_alloc, size_ext, World.size_setCell, size_setMap, World.size_drew, size_drewN, upd, List.set_cons_zero, List.set_cons_succ, if_true, reduceIte, not_false_eq_true, cs] at O | simp only [sel, rst, List.cons_append, List.nil_append, World.size_alloc, size_ext, World.size_setCell, size_setMap, World.size_drew, size_drewN, upd, List.set_cons_zero, List.set_cons_succ, if_true, reduceIte, not_false_eq_true] at O | skip)
                        (try clear cs)
                        (try clear v1)
                        (try clear v2)
                        (try clear v3)
                        generalize wr1.heap.size = p1_29 at O ⊢
                        refine hK.out _ _ (O.sel [false, true, false, false]) (fun _ => ?_)
                        clear hK K
                        refine wpAnyH_ready (rs := [7, 13]) (by kernel_rfl) (by simp) ?_
                        refine consH rfl (fun K hK => ?_) ?_
                        · have cs := O.facts
                          simp only [factsP, cellsP, roomP, foots_cons, foots_nil, foots_append, foot_pt, ptb, ptb_mapA, foot_mapA, factsP_mapA, foot_bun, List.append_nil, List.nil_append, List.cons_append, List.nodup_cons, List.nodup_nil, List.mem_cons, List.not_mem_nil, List.mem_singleton, List.forall_mem_cons, not_or, not_false_eq_true, and_true, true_and, or_false, false_or, forall_eq_or_imp, forall_eq, implies_true, Nat.zero_add, Nat.reduceAdd, and_assoc, foot_tabA, factsP_tabA, ptb_tabA] at cs
                          have v1 := V2.out _ O.fr
                          go_simp
                          apply Mem.atCall
                          case h => repeat' (first | (with_reducible exact O) | (with_reducible apply Mem.drew) | (with_reducible apply Mem.drewN) | (with_reducible apply Mem.ext) | (with_reducible apply Mem.alloc) | (with_reducible apply Mem.setCell) | (simp only [ptb, ptb_upd, foots_cons, List.mem_cons, World.size_alloc, size_ext, World.size_setCell, true_or, or_true, eq_self_iff_true]))
                          intro w1_30 O'
                          (try clear O)
                          have O := O'
                          clear O'
                          (first | simp only [sel, rst, List.cons_append, List.nil_append, World.size_alloc, size_ext, World.size_setCell, size_setMap, World.size_drew, size_drewN, upd, List.set_cons_zero, List.set_cons_succ, if_true, reduceIte, not_false_eq_true, cs] at O | simp only [sel, rst, List.cons_append, List.nil_append, World.size_alloc, size_ext, World.size_setCell, size_setMap, World.size_drew, size_drewN, upd, List.set_cons_zero, List.set_cons_succ, if_true, reduceIte, not_false_eq_true] at O | skip)
                          (try clear cs)
                          (try clear v1)
                          (try clear v2)
                          (try clear v3)
                          refine (D.out _ _ _ (O.pre [false, false, false, true])).mono ?_
                          rintro e w1_30' ⟨rfl, o⟩
                          replace O := O.callp [false, false, false, true] o
                          clear o
                          simp only [put, List.cons_append, List.nil_append] at O
                          go_wp2_with fail
                          refine hK.out _ _ (O.sel [false, true, false, false]) (fun _ => ?_)
                          clear hK K
                          refine takeH (i := 8) (v := ?v1_31) rfl (by kernel_rfl) (by kernel_rfl) (by kernel_rfl) (fun _ _ _ h => h) (by rfl) ?y1_31 (O.sel [false, true, false, false]) ?r1_31
                          case y1_31 =>
                            intro WW hSw
                            (go_simp) <;> (with_reducible rfl)
                          case' r1_31 =>
                            try simp only [Act.put, List.setIfInBounds_toArray, List.set_cons_zero, List.set_cons_succ]
                          refine takeH (i := 9) (v := ?v1_32) rfl (by kernel_rfl) (by kernel_rfl) (by kernel_rfl) (fun _ _ _ h => h) (by rfl) ?y1_32 (O.sel [false, true, false, false]) ?r1_32
                          case y1_32 =>
                            intro WW hSw
                            (go_simp) <;> (with_reducible rfl)
                          case' r1_32 =>
                            try simp only [Act.put, List.setIfInBounds_toArray, List.set_cons_zero, List.set_cons_succ]
                          refine takeH (i := 10) (v := ?v1_33) rfl (by kernel_rfl) (by kernel_rfl) (by kernel_rfl) (fun _ _ _ h => h) (by rfl) ?y1_33 (O.sel [false, true, false, false]) ?r1_33
                          case y1_33 =>
                            intro WW hSw
                            (go_simp) <;> (with_reducible rfl)
                          case' r1_33 =>
                            try simp only [Act.put, List.setIfInBounds_toArray, List.set_cons_zero, List.set_cons_succ]
                          refine takeH (i := 11) (v := ?v1_34) rfl (by kernel_rfl) (by kernel_rfl) (by kernel_rfl) (fun _ _ _ h => h) (by rfl) ?y1_34 (O.sel [false, true, false, false]) ?r1_34
                          case y1_34 =>
                            intro WW hSw
                            (go_simp) <;> (with_reducible rfl)
                          case' r1_34 =>
                            try simp only [Act.put, List.setIfInBounds_toArray, List.set_cons_zero, List.set_cons_succ]
                          refine takeH (i := 12) (v := ?v1_35) rfl (by kernel_rfl) (by kernel_rfl) (by kernel_rfl) (fun _ _ _ h => h) (by rfl) ?y1_35 (O.sel [false, true, false, false]) ?r1_35
                          case y1_35 =>
                            intro WW hSw
                            (go_simp) <;> (with_reducible rfl)
                          case' r1_35 =>
                            try simp only [Act.put, List.setIfInBounds_toArray, List.set_cons_zero, List.set_cons_succ]
                          revert O
                          exact hT1_2.out p1_29 w1_30'
                        refine consH rfl (fun K hK => ?_) ?_
                        · have cs := O.facts
                          simp only [factsP, cellsP, roomP, foots_cons, foots_nil, foots_append, foot_pt, ptb, ptb_mapA, foot_mapA, factsP_mapA, foot_bun, List.append_nil, List.nil_append, List.cons_append, List.nodup_cons, List.nodup_nil, List.mem_cons, List.not_mem_nil, List.mem_singleton, List.forall_mem_cons, not_or, not_false_eq_true, and_true, true_and, or_false, false_or, forall_eq_or_imp, forall_eq, implies_true, Nat.zero_add, Nat.reduceAdd, and_assoc, foot_tabA, factsP_tabA, ptb_tabA] at cs
                          have v1 := V2.out _ O.fr
                          go_simp
                          apply Mem.atK
                          case h => repeat' (first | (with_reducible exact O) | (with_reducible apply Mem.drew) | (with_reducible apply Mem.drewN) | (with_reducible apply Mem.ext) | (with_reducible apply Mem.alloc) | (with_reducible apply Mem.setCell) | (simp only [ptb, ptb_upd, foots_cons, List.mem_cons, World.size_alloc, size_ext, World.size_setCell, true_or, or_true, eq_self_iff_true]))
                          intro w1_36 O'
                          (try clear O)
                          have O := O'
                          clear O'
                          (first | simp only [sel, rst, List.cons_append, List.nil_append, World.size_alloc, size_ext, World.size_setCell, size_setMap, World.size_drew, size_drewN, upd, List.set_cons_zero, List.set_cons_succ, if_true, reduceIte, not_false_eq_true, cs] at O | simp only [sel, rst, List.cons_append, List.nil_append, World.size_alloc, size_ext, World.size_setCell, size_setMap, World.size_drew, size_drewN, upd, List.set_cons_zero, List.set_cons_succ, if_true, reduceIte, not_false_eq_true] at O | skip)
                          (try clear cs)
                          (try clear v1)
                          (try clear v2)
                          (try clear v3)
                          generalize w1_28.heap.size = p1_37 at O ⊢
                          refine hK.out _ _ (O.sel [false, false, true, false, false]) (fun _ => ?_)
                          clear hK K
                          replace O := O.swap
                          revert O
                          exact hT1_3.out p1_29 p1_37 w1_36
                        exact AllReadyH.nil
                      exact AllReadyH.nil
                    case' tail =>
                      intro q1_38 q1_39 w1_40 O
                      refine wpAnyH_ready (rs := [7]) (by kernel_rfl) (by simp) ?_
                      refine consH rfl (fun K hK => ?_) AllReadyH.nil
                      have cs := O.facts
                      simp only [factsP, cellsP, roomP, foots_cons, foots_nil, foots_append, foot_pt, ptb, ptb_mapA, foot_mapA, factsP_mapA, foot_bun, List.append_nil, List.nil_append, List.cons_append, List.nodup_cons, List.nodup_nil, List.mem_cons, List.not_mem_nil, List.mem_singleton, List.forall_mem_cons, not_or, not_false_eq_true, and_true, true_and, or_false, false_or, forall_eq_or_imp, forall_eq, implies_true, Nat.zero_add, Nat.reduceAdd, and_assoc, foot_tabA, factsP_tabA, ptb_tabA] at cs
                      have v1 := V2.out _ O.fr
                      go_simp
                      apply Mem.atCall
                      case h => repeat' (first | (with_reducible exact O) | (with_reducible apply Mem.drew) | (with_reducible apply Mem.drewN) | (with_reducible apply Mem.ext) | (with_reducible apply Mem.alloc) | (with_reducible apply Mem.setCell) | (simp only [ptb, ptb_upd, foots_cons, List.mem_cons, World.size_alloc, size_ext, World.size_setCell, true_or, or_true, eq_self_iff_true]))
                      intro w1_41 O'
                      (try clear O)
                      have O := O'
                      clear O'
                      (first | simp only [sel, rst, List.cons_append, List.nil_append, World.size_alloc, size_ext, World.size_setCell, size_setMap, World.size_drew, size_drewN, upd, List.set_cons_zero, List.set_cons_succ, if_true, reduceIte, not_false_eq_true, cs] at O | simp only [sel, rst, List.cons_append, List.nil_append, World.size_alloc, size_ext, World.size_setCell, size_setMap, World.size_drew, size_drewN, upd, List.set_cons_zero, List.set_cons_succ, if_true, reduceIte, not_false_eq_true] at O | skip)
                      (try clear cs)
                      (try clear v1)
                      (try clear v2)
                      (try clear v3)
                      refine (D.out _ _ _ (O.pre [false, false, false, false, true])).mono ?_
                      rintro e w1_41' ⟨rfl, o⟩
                      replace O := O.callp [false, false, false, false, true] o
                      clear o
                      simp only [put, List.cons_append, List.nil_append] at O
                      go_wp2_with fail
                      refine hK.out _ _ (O.sel [false, false, true, false, false]) (fun _ => ?_)
                      clear hK K
                      refine takeH (i := 8) (v := ?v1_42) rfl (by kernel_rfl) (by kernel_rfl) (by kernel_rfl) (fun _ _ _ h => h) (by rfl) ?y1_42 (O.sel [false, false, true, false, false]) ?r1_42
                      case y1_42 =>
                        intro WW hSw
                        (go_simp) <;> (with_reducible rfl)
                      case' r1_42 =>
                        try simp only [Act.put, List.setIfInBounds_toArray, List.set_cons_zero, List.set_cons_succ]
                      refine takeH (i := 9) (v := ?v1_43) rfl (by kernel_rfl) (by kernel_rfl) (by kernel_rfl) (fun _ _ _ h => h) (by rfl) ?y1_43 (O.sel [false, false, true, false, false]) ?r1_43
                      case y1_43 =>
                        intro WW hSw
                        (go_simp) <;> (with_reducible rfl)
                      case' r1_43 =>
                        try simp only [Act.put, List.setIfInBounds_toArray, List.set_cons_zero, List.set_cons_succ]
                      refine takeH (i := 10) (v := ?v1_44) rfl (by kernel_rfl) (by kernel_rfl) (by kernel_rfl) (fun _ _ _ h => h) (by rfl) ?y1_44 (O.sel [false, false, true, false, false]) ?r1_44
                      case y1_44 =>
                        intro WW hSw
                        (go_simp) <;> (with_reducible rfl)
                      case' r1_44 =>
                        try simp only [Act.put, List.setIfInBounds_toArray, List.set_cons_zero, List.set_cons_succ]
                      refine takeH (i := 11) (v := ?v1_45) rfl (by kernel_rfl) (by kernel_rfl) (by kernel_rfl) (fun _ _ _ h => h) (by rfl) ?y1_45 (O.sel [false, false, true, false, false]) ?r1_45
                      case y1_45 =>
                        intro WW hSw
                        (go_simp) <;> (with_reducible rfl)
                      case' r1_45 =>
                        try simp only [Act.put, List.setIfInBounds_toArray, List.set_cons_zero, List.set_cons_succ]
                      refine takeH (i := 12) (v := ?v1_46) rfl (by kernel_rfl) (by kernel_rfl) (by kernel_rfl) (fun _ _ _ h => h) (by rfl) ?y1_46 (O.sel [false, false, true, false, false]) ?r1_46
                      case y1_46 =>
                        intro WW hSw
                        (go_simp) <;> (with_reducible rfl)
                      case' r1_46 =>
                        try simp only [Act.put, List.setIfInBounds_toArray, List.set_cons_zero, List.set_cons_succ]
                      revert O
                      exact hT1_0.out q1_38 q1_39 w1_41'
                  case' tail =>
                    intro q1_47 w1_48 O
                    refine wpAnyH_ready (rs := [13]) (by kernel_rfl) (by simp) ?_
                    refine consH rfl (fun K hK => ?_) AllReadyH.nil
                    have cs := O.facts
                    simp only [factsP, cellsP, roomP, foots_cons, foots_nil, foots_append, foot_pt, ptb, ptb_mapA, foot_mapA, factsP_mapA, foot_bun, List.append_nil, List.nil_append, List.cons_append, List.nodup_cons, List.nodup_nil, List.mem_cons, List.not_mem_nil, List.mem_singleton, List.forall_mem_cons, not_or, not_false_eq_true, and_true, true_and, or_false, false_or, forall_eq_or_imp, forall_eq, implies_true, Nat.zero_add, Nat.reduceAdd, and_assoc, foot_tabA, factsP_tabA, ptb_tabA] at cs
                    have v1 := V2.out _ O.fr
                    go_simp
                    apply Mem.atK
                    case h => repeat' (first | (with_reducible exact O) | (with_reducible apply Mem.drew) | (with_reducible apply Mem.drewN) | (with_reducible apply Mem.ext) | (with_reducible apply Mem.alloc) | (with_reducible apply Mem.setCell) | (simp only [ptb, ptb_upd, foots_cons, List.mem_cons, World.size_alloc, size_ext, World.size_setCell, true_or, or_true, eq_self_iff_true]))
                    intro w1_49 O'
                    (try clear O)
                    have O := O'
                    clear O'
                    (first | simp only [sel, rst, List.cons_append, List.nil_append, World.size_alloc, size_ext, World.size_setCell, size_setMap, World.size_drew, size_drewN, upd, List.set_cons_zero, List.set_cons_succ, if_true, reduceIte, not_false_eq_true, cs] at O | simp only [sel, rst, List.cons_append, List.nil_append, World.size_alloc, size_ext, World.size_setCell, size_setMap, World.size_drew, size_drewN, upd, List.set_cons_zero, List.set_cons_succ, if_true, reduceIte, not_false_eq_true] at O | skip)
                    (try clear cs)
                    (try clear v1)
                    (try clear v2)
                    (try clear v3)
                    generalize w1_48.heap.size = p1_50 at O ⊢
                    refine hK.out _ _ (O.sel [false, false, true, false, false]) (fun _ => ?_)
                    clear hK K
                    replace O := O.swap
                    revert O
                    exact hT1_0.out q1_47 p1_50 w1_49
                case' tail =>
                  intro q1_51 w1_52 O
                  refine wpAnyH_ready (rs := [14]) (by kernel_rfl) (by simp) ?_
                  refine consH rfl (fun K hK => ?_) AllReadyH.nil
                  have cs := O.facts
                  simp only [factsP, cellsP, roomP, foots_cons, foots_nil, foots_append, foot_pt, ptb, ptb_mapA, foot_mapA, factsP_mapA, foot_bun, List.append_nil, List.nil_append, List.cons_append, List.nodup_cons, List.nodup_nil, List.mem_cons, List.not_mem_nil, List.mem_singleton, List.forall_mem_cons, not_or, not_false_eq_true, and_true, true_and, or_false, false_or, forall_eq_or_imp, forall_eq, implies_true, Nat.zero_add, Nat.reduceAdd, and_assoc, foot_tabA, factsP_tabA, ptb_tabA] at cs
                  have v1 := V2.out _ O.fr
                  go_simp
                  apply Mem.atK
                  case h => repeat' (first | (with_reducible exact O) | (with_reducible apply Mem.drew) | (with_reducible apply Mem.drewN) | (with_reducible apply Mem.ext) | (with_reducible apply Mem.alloc) | (with_reducible apply Mem.setCell) | (simp only [ptb, ptb_upd, foots_cons, List.mem_cons, World.size_alloc, size_ext, World.size_setCell, true_or, or_true, eq_self_iff_true]))
                  intro w1_53 O'
                  (try clear O)
                  have O := O'
                  clear O'
                  (first | simp only [sel, rst, List.cons_append, List.nil_append, World.size_alloc, size_ext, World.size_setCell, size_setMap, World.size_drew, size_drewN, upd, List.set_cons_zero, List.set_cons_succ, if_true, reduceIte, not_false_eq_true, cs] at O | simp only [sel, rst, List.cons_append, List.nil_append, World.size_alloc, size_ext, World.size_setCell, size_setMap, World.size_drew, size_drewN, upd, List.set_cons_zero, List.set_cons_succ, if_true, reduceIte, not_false_eq_true] at O | skip)
                  (try clear cs)
                  (try clear v1)
                  (try clear v2)
                  (try clear v3)
                  generalize w1_52.heap.size = p1_54 at O ⊢
                  refine hK.out _ _ (O.sel [false, false, true, false, false]) (fun _ => ?_)
                  clear hK K
                  revert O
                  exact hT1_0.out p1_54 q1_51 w1_53
              case' tail =>
                intro q1_55 q1_56 w1_57 O
              refine wpAnyH_ready (rs := [15]) (by kernel_rfl) (by simp) ?_
              refine consH rfl (fun K hK => ?_) AllReadyH.nil
              have cs := O.facts
              simp only [factsP, cellsP, roomP, foots_cons, foots_nil, foots_append, foot_pt, ptb, ptb_mapA, foot_mapA, factsP_mapA, foot_bun, List.append_nil, List.nil_append, List.cons_append, List.nodup_cons, List.nodup_nil, List.mem_cons, List.not_mem_nil, List.mem_singleton, List.forall_mem_cons, not_or, not_false_eq_true, and_true, true_and, or_false, false_or, forall_eq_or_imp, forall_eq, implies_true, Nat.zero_add, Nat.reduceAdd, and_assoc, foot_tabA, factsP_tabA, ptb_tabA] at cs
              have v1 := V2.out _ O.fr
              go_simp
              apply Mem.atK
              case h => repeat' (first | (with_reducible exact O) | (with_reducible apply Mem.drew) | (with_reducible apply Mem.drewN) | (with_reducible apply Mem.ext) | (with_reducible apply Mem.alloc) | (with_reducible apply Mem.setCell) | (simp only [ptb, ptb_upd, foots_cons, List.mem_cons, World.size_alloc, size_ext, World.size_setCell, true_or, or_true, eq_self_iff_true]))
              intro w1_58 O'
              (try clear O)
              have O := O'
              clear O'
              (first | simp only [sel, rst, List.cons_append, List.nil_append, World.size_alloc, size_ext, World.size_setCell, size_setMap, World.size_drew, size_drewN, upd, List.set_cons_zero, List.set_cons_succ, if_true, reduceIte, not_false_eq_true, cs] at O | simp only [sel, rst, List.cons_append, List.nil_append, World.size_alloc, size_ext, World.size_setCell, size_setMap, World.size_drew, size_drewN, upd, List.set_cons_zero, List.set_cons_succ, if_true, reduceIte, not_false_eq_true] at O | skip)
              (try clear cs)
              (try clear v1)
              (try clear v2)
              (try clear v3)
              refine hK.out _ _ (O.sel [false, false, true, false, false]) (fun _ => ?_)
              clear hK K
              refine wpAnyH_ready (rs := [16]) (by kernel_rfl) (by simp) ?_
              refine consH rfl (fun K hK => ?_) AllReadyH.nil
              have cs := O.facts
              simp only [factsP, cellsP, roomP, foots_cons, foots_nil, foots_append, foot_pt, ptb, ptb_mapA, foot_mapA, factsP_mapA, foot_bun, List.append_nil, List.nil_append, List.cons_append, List.nodup_cons, List.nodup_nil, List.mem_cons, List.not_mem_nil, List.mem_singleton, List.forall_mem_cons, not_or, not_false_eq_true, and_true, true_and, or_false, false_or, forall_eq_or_imp, forall_eq, implies_true, Nat.zero_add, Nat.reduceAdd, and_assoc, foot_tabA, factsP_tabA, ptb_tabA] at cs
              have v1 := V2.out _ O.fr
              go_simp
              apply Mem.atK
              case h => repeat' (first | (with_reducible exact O) | (with_reducible apply Mem.drew) | (with_reducible apply Mem.drewN) | (with_reducible apply Mem.ext) | (with_reducible apply Mem.alloc) | (with_reducible apply Mem.setCell) | (simp only [ptb, ptb_upd, foots_cons, List.mem_cons, World.size_alloc, size_ext, World.size_setCell, true_or, or_true, eq_self_iff_true]))
              intro w1_59 O'
              (try clear O)
              have O := O'
              clear O'
              (first | simp only [sel, rst, List.cons_append, List.nil_append, World.size_alloc, size_ext, World.size_setCell, size_setMap, World.size_drew, size_drewN, upd, List.set_cons_zero, List.set_cons_succ, if_true, reduceIte, not_false_eq_true, cs] at O | simp only [sel, rst, List.cons_append, List.nil_append, World.size_alloc, size_ext, World.size_setCell, size_setMap, World.size_drew, size_drewN, upd, List.set_cons_zero, List.set_cons_succ, if_true, reduceIte, not_false_eq_true] at O | skip)
              (try clear cs)
              (try clear v1)
              (try clear v2)
              (try clear v3)
              refine hK.out _ _ (O.sel [false, false, true, false, false]) (fun _ => ?_)
              clear hK K
              refine takeH (i := 17) (v := ?v1_60) rfl (by kernel_rfl) (by kernel_rfl) (by kernel_rfl) (fun _ _ _ h => h) (by rfl) ?y1_60 (O.sel [false, false, true, false, false]) ?r1_60
              case y1_60 =>
                intro WW hSw
                (go_simp) <;> (with_reducible rfl)
              case' r1_60 =>
                try simp only [Act.put, List.setIfInBounds_toArray, List.set_cons_zero, List.set_cons_succ]
              refine takeH (i := 18) (v := ?v1_61) rfl (by kernel_rfl) (by kernel_rfl) (by kernel_rfl) (fun _ _ _ h => h) (by rfl) ?y1_61 (O.sel [false, false, true, false, false]) ?r1_61
              case y1_61 =>
                intro WW hSw
                (go_simp) <;> (with_reducible rfl)
              case' r1_61 =>
                try simp only [Act.put, List.setIfInBounds_toArray, List.set_cons_zero, List.set_cons_succ]
              refine wpAnyH_done (by kernel_rfl) ?_ _
              go_wp2_with fail
              go_meet
              exact ⟨_, _, rfl, rfl, rfl, rfl, O.swap⟩
            case rest =>
              clear O cs v1
              obtain ⟨pA, pB, rfl, rfl, rfl, rfl, O⟩ := hcut
              have cs := O.facts
              simp only [factsP, cellsP, roomP, foots_cons, foots_nil, foots_append, foot_pt, ptb, ptb_mapA, foot_mapA, factsP_mapA, foot_bun, List.append_nil, List.nil_append, List.cons_append, List.nodup_cons, List.nodup_nil, List.mem_cons, List.not_mem_nil, List.mem_singleton, List.forall_mem_cons, not_or, not_false_eq_true, and_true, true_and, or_false, false_or, forall_eq_or_imp, forall_eq, implies_true, Nat.zero_add, Nat.reduceAdd, and_assoc, foot_tabA, factsP_tabA, ptb_tabA] at cs
              have v1 := V2.out _ O.fr
              go_wp2_with fail
              go_cut [17, 18, 19, 20] (fun s13 s14 s15 s16 wc => ∃ qA qB : Nat, s13 = .pointer (some ⟨qA, 0, none⟩) ∧ s14 = .pointer (some ⟨qB, 0, none⟩) ∧ s15 = .bool pm ∧ s16 = .int .i64 pe ∧
                Mem w [] wc [.pt qA [.bool pai, .int .u32 par, .int .u8 pan, .string pav] 35, .pt qB [.int .u32 pbr, .int .u8 pbn] 33, .pt pA [.bool pai, .int .u32 par, .int .u8 pan, .string pav] 35, .pt pB [.int .u32 pbr, .int .u8 pbn] 33, .pt w3.heap.size [.int .u64 3, .int .i64 9, .int .i64 0, .int .u32 0] 31, tabA (w1'.heap.size + 1) w1'.heap.size 1 m1, tabA (w.heap.size + 1) w.heap.size 1 m1])
              case first =>
                apply region_held_mem [false, false, true, false, false] (by kernel_rfl)
                case O => repeat' (first | (with_reducible exact O) | (with_reducible apply Mem.drew) | (with_reducible apply Mem.drewN) | (with_reducible apply Mem.ext) | (with_reducible apply Mem.alloc) | (with_reducible apply Mem.setCell) | (simp only [ptb, ptb_upd, foots_cons, List.mem_cons, World.size_alloc, size_ext, World.size_setCell, true_or, or_true, eq_self_iff_true]))
                case' h =>
                  intro wr2 O'
                  (try clear O)
                  have O := O'
                  clear O'
                  (first | simp only [sel, rst, List.cons_append, List.nil_append, World.size_alloc, size_ext, World.size_setCell, size_setMap, World.size_drew, size_drewN, upd, List.set_cons_zero, List.set_cons_succ, if_true, reduceIte, not_false_eq_true, cs] at O | simp only [sel, rst, List.cons_append, List.nil_append, World.size_alloc, size_ext, World.size_setCell, size_setMap, World.size_drew, size_drewN, upd, List.set_cons_zero, List.set_cons_succ, if_true, reduceIte, not_false_eq_true] at O | skip)
                  (try clear cs)
                  (try clear v1)
                  (try clear v2)
                  (try clear v3)
                refine takeH (i := 0) (v := ?v2_1) rfl (by kernel_rfl) (by kernel_rfl) (by kernel_rfl) (fun _ _ _ h => h) (by rfl) ?y2_1 (O.sel [false, false, true, false, false]) ?r2_1
                case y2_1 =>
                  intro WW hSw
                  (go_simp) <;> (with_reducible rfl)
                case' r2_1 =>
                  try simp only [Act.put, List.setIfInBounds_toArray, List.set_cons_zero, List.set_cons_succ]
                refine takeH (i := 1) (v := ?v2_2) rfl (by kernel_rfl) (by kernel_rfl) (by kernel_rfl) (fun _ _ _ h => h) (by rfl) ?y2_2 (O.sel [false, false, true, false, false]) ?r2_2
                case y2_2 =>
                  intro WW hSw
                  replace hSw : Mem _ _ WW _ := hSw
                  have cs := hSw.facts
                  simp only [sel, factsP, cellsP, roomP, foots_cons, foots_nil, foots_append, foot_pt, ptb, ptb_mapA, foot_mapA, factsP_mapA, foot_bun, List.append_nil, List.nil_append, List.cons_append, List.nodup_cons, List.nodup_nil, List.mem_cons, List.not_mem_nil, List.mem_singleton, List.forall_mem_cons, not_or, not_false_eq_true, and_true, true_and, or_false, false_or, forall_eq_or_imp, forall_eq, implies_true, Nat.zero_add, Nat.reduceAdd, and_assoc, foot_tabA, factsP_tabA, ptb_tabA] at cs
                  have v1 := V2.out _ hSw.fr
                  (go_simp) <;> (with_reducible rfl)
                case' r2_2 =>
                  try simp only [Act.put, List.setIfInBounds_toArray, List.set_cons_zero, List.set_cons_succ]
                refine takeH (i := 2) (v := ?v2_3) rfl (by kernel_rfl) (by kernel_rfl) (by kernel_rfl) (fun _ _ _ h => h) (by rfl) ?y2_3 (O.sel [false, false, true, false, false]) ?r2_3
                case y2_3 =>
                  intro WW hSw
                  (go_simp) <;> (with_reducible rfl)
                case' r2_3 =>
                  try simp only [Act.put, List.setIfInBounds_toArray, List.set_cons_zero, List.set_cons_succ]
                refine takeH (i := 3) (v := ?v2_4) rfl (by kernel_rfl) (by kernel_rfl) (by kernel_rfl) (fun _ _ _ h => h) (by rfl) ?y2_4 (O.sel [false, false, true, false, false]) ?r2_4
                case y2_4 =>
                  intro WW hSw
                  (go_simp) <;> (with_reducible rfl)
                case' r2_4 =>
                  try simp only [Act.put, List.setIfInBounds_toArray, List.set_cons_zero, List.set_cons_succ]
                refine takeH (i := 4) (v := ?v2_5) rfl (by kernel_rfl) (by kernel_rfl) (by kernel_rfl) (fun _ _ _ h => h) (by rfl) ?y2_5 (O.sel [false, false, true, false, false]) ?r2_5
                case y2_5 =>
                  intro WW hSw
                  replace hSw : Mem _ _ WW _ := hSw
                  have cs := hSw.facts
                  simp only [sel, factsP, cellsP, roomP, foots_cons, foots_nil, foots_append, foot_pt, ptb, ptb_mapA, foot_mapA, factsP_mapA, foot_bun, List.append_nil, List.nil_append, List.cons_append, List.nodup_cons, List.nodup_nil, List.mem_cons, List.not_mem_nil, List.mem_singleton, List.forall_mem_cons, not_or, not_false_eq_true, and_true, true_and, or_false, false_or, forall_eq_or_imp, forall_eq, implies_true, Nat.zero_add, Nat.reduceAdd, and_assoc, foot_tabA, factsP_tabA, ptb_tabA] at cs
                  have v1 := V2.out _ hSw.fr
                  (go_simp) <;> (with_reducible rfl)
                case' r2_5 =>
                  try simp only [Act.put, List.setIfInBounds_toArray, List.set_cons_zero, List.set_cons_succ]
                refine takeH (i := 5) (v := ?v2_6) rfl (by kernel_rfl) (by kernel_rfl) (by kernel_rfl) (fun _ _ _ h => h) (by rfl) ?y2_6 (O.sel [false, false, true, false, false]) ?r2_6
                case y2_6 =>
                  intro WW hSw
                  (go_simp) <;> (with_reducible rfl)
                case' r2_6 =>
                  try simp only [Act.put, List.setIfInBounds_toArray, List.set_cons_zero, List.set_cons_succ]
                refine takeH (i := 6) (v := ?v2_7) rfl (by kernel_rfl) (by kernel_rfl) (by kernel_rfl) (fun _ _ _ h => h) (by rfl) ?y2_7 (O.sel [false, false, true, false, false]) ?r2_7
                case y2_7 =>
                  intro WW hSw
                  replace hSw : Mem _ _ WW _ := hSw
                  have cs := hSw.facts
                  simp only [sel, factsP, cellsP, roomP, foots_cons, foots_nil, foots_append, foot_pt, ptb, ptb_mapA, foot_mapA, factsP_mapA, foot_bun, List.append_nil, List.nil_append, List.cons_append, List.nodup_cons, List.nodup_nil, List.mem_cons, List.not_mem_nil, List.mem_singleton, List.forall_mem_cons, not_or, not_false_eq_true, and_true, true_and, or_false, false_or, forall_eq_or_imp, forall_eq, implies_true, Nat.zero_add, Nat.reduceAdd, and_assoc, foot_tabA, factsP_tabA, ptb_tabA] at cs
                  have v1 := V2.out _ hSw.fr
                  (go_simp) <;> (with_reducible rfl)
                case' r2_7 =>
                  try simp only [Act.put, List.setIfInBounds_toArray, List.set_cons_zero, List.set_cons_succ]
                apply cutT2
                case main =>
                  intro hT2_0
                  apply cutT1
                  case main =>
                    intro hT2_1
                    apply cutT1
                    case main =>
                      intro hT2_2
                      apply cutT2
                      case main =>
                        intro hT2_3
                        refine wpAnyH_ready (rs := [7, 13, 14]) (by kernel_rfl) (by simp) ?_
                        refine consH rfl (fun K hK => ?_) ?_
                        · have cs := O.facts
                          simp only [factsP, cellsP, roomP, foots_cons, foots_nil, foots_append, foot_pt, ptb, ptb_mapA, foot_mapA, factsP_mapA, foot_bun, List.append_nil, List.nil_append, List.cons_append, List.nodup_cons, List.nodup_nil, List.mem_cons, List.not_mem_nil, List.mem_singleton, List.forall_mem_cons, not_or, not_false_eq_true, and_true, true_and, or_false, false_or, forall_eq_or_imp, forall_eq, implies_true, Nat.zero_add, Nat.reduceAdd, and_assoc, foot_tabA, factsP_tabA, ptb_tabA] at cs
                          have v1 := V2.out _ O.fr
                          go_simp
                          apply Mem.atCall
                          case h => repeat' (first | (with_reducible exact O) | (with_reducible apply Mem.drew) | (with_reducible apply Mem.drewN) | (with_reducible apply Mem.ext) | (with_reducible apply Mem.alloc) | (with_reducible apply Mem.setCell) | (simp only [ptb, ptb_upd, foots_cons, List.mem_cons, World.size_alloc, size_ext, World.size_setCell, true_or, or_true, eq_self_iff_true]))
                          intro w2_8 O'
                          (try clear O)
                          have O := O'
                          clear O'
                          (first | simp only [sel, rst, List.cons_append, List.nil_append, World.size_alloc, size_ext, World.size_setCell, size_setMap, World.size_drew, size_drewN, upd, List.set_cons_zero, List.set_cons_succ, if_true, reduceIte, not_false_eq_true, cs] at O | simp only [sel, rst, List.cons_append, List.nil_append, World.size_alloc, size_ext, World.size_setCell, size_setMap, World.size_drew, size_drewN, upd, List.set_cons_zero, List.set_cons_succ, if_true, reduceIte, not_false_eq_true] at O | skip)
                          (try clear cs)
                          (try clear v1)
                          (try clear v2)
                          (try clear v3)
                          refine (D.out _ _ _ (O.pre [false, false, false, true, false])).mono ?_
                          rintro e w2_8' ⟨rfl, o⟩
                          replace O := O.callp [false, false, false, true, false] o
                          clear o
                          simp only [put, List.cons_append, List.nil_append] at O
                          go_wp2_with fail
                          refine hK.out _ _ (O.sel [false, false, true, false, false]) (fun _ => ?_)
                          clear hK K
                          refine takeH (i := 8) (v := ?v2_9) rfl (by kernel_rfl) (by kernel_rfl) (by kernel_rfl) (fun _ _ _ h => h) (by rfl) ?y2_9 (O.sel [false, false, true, false, false]) ?r2_9
                          case y2_9 =>
                            intro WW hSw
                            (go_simp) <;> (with_reducible rfl)
                          case' r2_9 =>
                            try simp only [Act.put, List.setIfInBounds_toArray, List.set_cons_zero, List.set_cons_succ]
                          refine takeH (i := 9) (v := ?v2_10) rfl (by kernel_rfl) (by kernel_rfl) (by kernel_rfl) (fun _ _ _ h => h) (by rfl) ?y2_10 (O.sel [false, false, true, false, false]) ?r2_10
                          case y2_10 =>
                            intro WW hSw
                            (go_simp) <;> (with_reducible rfl)
                          case' r2_10 =>
                            try simp only [Act.put, List.setIfInBounds_toArray, List.set_cons_zero, List.set_cons_succ]
                          refine takeH (i := 10) (v := ?v2_11) rfl (by kernel_rfl) (by kernel_rfl) (by kernel_rfl) (fun _ _ _ h => h) (by rfl) ?y2_11 (O.sel [false, false, true, false, false]) ?r2_11
                          case y2_11 =>
                            intro WW hSw
                            (go_simp) <;> (with_reducible rfl)
                          case' r2_11 =>
                            try simp only [Act.put, List.setIfInBounds_toArray, List.set_cons_zero, List.set_cons_succ]
                          refine takeH (i := 11) (v := ?v2_12) rfl (by kernel_rfl) (by kernel_rfl) (by kernel_rfl) (fun _ _ _ h => h) (by rfl) ?y2_12 (O.sel [false, false, true, false, false]) ?r2_12
                          case y2_12 =>
                            intro WW hSw
                            (go_simp) <;> (with_reducible rfl)
                          case' r2_12 =>
                            try simp only [Act.put, List.setIfInBounds_toArray, List.set_cons_zero, List.set_cons_succ]
                          refine takeH (i := 12) (v := ?v2_13) rfl (by kernel_rfl) (by kernel_rfl) (by kernel_rfl) (fun _ _ _ h => h) (by rfl) ?y2_13 (O.sel [false, false, true, false, false]) ?r2_13
                          case y2_13 =>
                            intro WW hSw
                            (go_simp) <;> (with_reducible rfl)
                          case' r2_13 =>
                            try simp only [Act.put, List.setIfInBounds_toArray, List.set_cons_zero, List.set_cons_succ]
                          refine wpAnyH_ready (rs := [13, 14]) (by kernel_rfl) (by simp) ?_
                          refine consH rfl (fun K hK => ?_) ?_
                          · have cs := O.facts
                            simp only [factsP, cellsP, roomP, foots_cons, foots_nil, foots_append, foot_pt, ptb, ptb_mapA, foot_mapA, factsP_mapA, foot_bun, List.append_nil, List.nil_append, List.cons_append, List.nodup_cons, List.nodup_nil, List.mem_cons, List.not_mem_nil, List.mem_singleton, List.forall_mem_cons, not_or, not_false_eq_true, and_true, true_and, or_false, false_or, forall_eq_or_imp, forall_eq, implies_true, Nat.zero_add, Nat.reduceAdd, and_assoc, foot_tabA, factsP_tabA, ptb_tabA] at cs
                            have v1 := V2.out _ O.fr
                            go_simp
                            apply Mem.atK
                            case h => repeat' (first | (with_reducible exact O) | (with_reducible apply Mem.drew) | (with_reducible apply Mem.drewN) | (with_reducible apply Mem.ext) | (with_reducible apply Mem.alloc) | (with_reducible apply Mem.setCell) | (simp only [ptb, ptb_upd, foots_cons, List.mem_cons, World.size_alloc, size_ext, World.size_setCell, true_or, or_true, eq_self_iff_true]))
                            intro w2_14 O'
                            (try clear O)
                            have O := O'
                            clear O'
                            (first | simp only [sel, rst, List.cons_append, List.nil_append, World.size_alloc, size_ext, World.size_setCell, size_setMap, World.size_drew, size_drewN, upd, List.set_cons_zero, List.set_cons_succ, if_true, reduceIte, not_false_eq_true, cs] at O | simp only [sel, rst, List.cons_append, List.nil_append, World.size_alloc, size_ext, World.size_setCell, size_setMap, World.size_drew, size_drewN, upd, List.set_cons_zero, List.set_cons_succ, if_true, reduceIte, not_false_eq_true] at O | skip)
                            (try clear cs)
                            (try clear v1)
                            (try clear v2)
                            (try clear v3)
                            generalize w2_8'.heap.size = p2_15 at O ⊢
                            refine hK.out _ _ (O.sel [false, false, false, true, false, false]) (fun _ => ?_)
                            clear hK K
                            revert O
                            exact hT2_1.out p2_15 w2_14
                          refine consH rfl (fun K hK => ?_) ?_
                          · have cs := O.facts
                            simp only [factsP, cellsP, roomP, foots_cons, foots_nil, foots_append, foot_pt, ptb, ptb_mapA, foot_mapA, factsP_mapA, foot_bun, List.append_nil, List.nil_append, List.cons_append, List.nodup_cons, List.nodup_nil, List.mem_cons, List.not_mem_nil, List.mem_singleton, List.forall_mem_cons, not_or, not_false_eq_true, and_true, true_and, or_false, false_or, forall_eq_or_imp, forall_eq, implies_true, Nat.zero_add, Nat.reduceAdd, and_assoc, foot_tabA, factsP_tabA, ptb_tabA] at cs
                            have v1 := V2.out _ O.fr
                            go_simp
                            apply Mem.atK
                            case h => repeat' (first | (with_reducible exact O) | (with_reducible apply Mem.drew) | (with_reducible apply Mem.drewN) | (with_reducible apply Mem.ext) | (with_reducible apply Mem.alloc) | (with_reducible apply Mem.setCell) | (simp only [ptb, ptb_upd, foots_cons, List.mem_cons, World.size_alloc, size_ext, World.size_setCell, true_or, or_true, eq_self_iff_true]))
                            intro w2_16 O'
                            (try clear O)
                            have O := O'
                            clear O'
                            (first | simp only [sel, rst, List.cons_append, List.nil_append, World.size_alloc, size_ext, World.size_setCell, size_setMap, World.size_drew, size_drewN, upd, List.set_cons_zero, List.set_cons_succ, if_true, reduceIte, not_false_eq_true, cs] at O | simp only [sel, rst, List.cons_append, List.nil_append, World.size_alloc, size_ext, World.size_setCell, size_setMap, World.size_drew, size_drewN, upd, List.set_cons_zero, List.set_cons_succ, if_true, reduceIte, not_false_eq_true] at O | skip)
                            (try clear cs)
                            (try clear v1)
                            (try clear v2)
                            (try clear v3)
                            generalize w2_8'.heap.size = p2_17 at O ⊢
                            refine hK.out _ _ (O.sel [false, false, false, true, false, false]) (fun _ => ?_)
                            clear hK K
                            revert O
                            exact hT2_2.out p2_17 w2_16
                          exact AllReadyH.nil
                        refine consH rfl (fun K hK => ?_) ?_
                        · have cs := O.facts
                          simp only [factsP, cellsP, roomP, foots_cons, foots_nil, foots_append, foot_pt, ptb, ptb_mapA, foot_mapA, factsP_mapA, foot_bun, List.append_nil, List.nil_append, List.cons_append, List.nodup_cons, List.nodup_nil, List.mem_cons, List.not_mem_nil, List.mem_singleton, List.forall_mem_cons, not_or, not_false_eq_true, and_true, true_and, or_false, false_or, forall_eq_or_imp, forall_eq, implies_true, Nat.zero_add, Nat.reduceAdd, and_assoc, foot_tabA, factsP_tabA, ptb_tabA] at cs
                          have v1 := V2.out _ O.fr
                          go_simp
                          apply Mem.atK
                          case h => repeat' (first | (with_reducible exact O) | (with_reducible apply Mem.drew) | (with_reducible apply Mem.drewN) | (with_reducible apply Mem.ext) | (with_reducible apply Mem.alloc) | (with_reducible apply Mem.setCell) | (simp only [ptb, ptb_upd, foots_cons, List.mem_cons, World.size_alloc, size_ext, World.size_setCell, true_or, or_true, eq_self_iff_true]))
                          intro w2_18 O'
                          (try clear O)
                          have O := O'
                          clear O'
                          (first | simp only [sel, rst, List.cons_append, List.nil_append, World.size_alloc, size_ext, World.size_setCell, size_setMap, World.size_drew, size_drewN, upd, List.set_cons_zero, List.set_cons_succ, if_true, reduceIte, not_false_eq_true, cs] at O | simp only [sel, rst, List.cons_append, List.nil_append, World.size_alloc, size_ext, World.size_setCell, size_setMap, World.size_drew, size_drewN, upd, List.set_cons_zero, List.set_cons_succ, if_true, reduceIte, not_false_eq_true] at O | skip)
                          (try clear cs)
                          (try clear v1)
                          (try clear v2)
                          (try clear v3)
                          generalize wr2.heap.size = p2_19 at O ⊢
                          refine hK.out _ _ (O.sel [false, false, false, true, false, false]) (fun _ => ?_)
                          clear hK K
                          refine wpAnyH_ready (rs := [7, 14]) (by kernel_rfl) (by simp) ?_
                          refine consH rfl (fun K hK => ?_) ?_
                          · have cs := O.facts
                            simp only [factsP, cellsP, roomP, foots_cons, foots_nil, foots_append, foot_pt, ptb, ptb_mapA, foot_mapA, factsP_mapA, foot_bun, List.append_nil, List.nil_append, List.cons_append, List.nodup_cons, List.nodup_nil, List.mem_cons, List.not_mem_nil, List.mem_singleton, List.forall_mem_cons, not_or, not_false_eq_true, and_true, true_and, or_false, false_or, forall_eq_or_imp, forall_eq, implies_true, Nat.zero_add, Nat.reduceAdd, and_assoc, foot_tabA, factsP_tabA, ptb_tabA] at cs
                            have v1 := V2.out _ O.fr
                            go_simp
                            apply Mem.atCall
                            case h => repeat' (first | (with_reducible exact O) | (with_reducible apply Mem.drew) | (with_reducible apply Mem.drewN) | (with_reducible apply Mem.ext) | (with_reducible apply Mem.alloc) | (with_reducible apply Mem.setCell) | (simp only [ptb, ptb_upd, foots_cons, List.mem_cons, World.size_alloc, size_ext, World.size_setCell, true_or, or_true, eq_self_iff_true]))
                            intro w2_20 O'
                            (try clear O)
                            have O := O'
                            clear O'
                            (first | simp only [sel, rst, List.cons_append, List.nil_append, World.size_alloc, size_ext, World.size_setCell, size_setMap, World.size_drew, size_drewN, upd, List.set_cons_zero, List.set_cons_succ, if_true, reduceIte, not_false_eq_true, cs] at O | simp only [sel, rst, List.cons_append, List.nil_append, World.size_alloc, size_ext, World.size_setCell, size_setMap, World.size_drew, size_drewN, upd, List.set_cons_zero, List.set_cons_succ, if_true, reduceIte, not_false_eq_true] at O | skip)
                            (try clear cs)
                            (try clear v1)
                            (try clear v2)
                            (try clear v3)
                            refine (D.out _ _ _ (O.pre [false, false, false, false, true, false])).mono ?_
                            rintro e w2_20' ⟨rfl, o⟩
                            replace O := O.callp [false, false, false, false, true, false] o
                            clear o
                            simp only [put, List.cons_append, List.nil_append] at O
                            go_wp2_with fail
                            refine hK.out _ _ (O.sel [false, false, false, true, false, false]) (fun _ => ?_)
                            clear hK K
                            refine takeH (i := 8) (v := ?v2_21) rfl (by kernel_rfl) (by kernel_rfl) (by kernel_rfl) (fun _ _ _ h => h) (by rfl) ?y2_21 (O.sel [false, false, false, true, false, false]) ?r2_21
                            case y2_21 =>
                              intro WW hSw
                              (go_simp) <;> (with_reducible rfl)
                            case' r2_21 =>
                              try simp only [Act.put, List.setIfInBounds_toArray, List.set_cons_zero, List.set_cons_succ]
                            refine takeH (i := 9) (v := ?v2_22) rfl (by kernel_rfl) (by kernel_rfl) (by kernel_rfl) (fun _ _ _ h => h) (by rfl) ?y2_22 (O.sel [false, false, false, true, false, false]) ?r2_22
                            case y2_22 =>
                              intro WW hSw
                              (go_simp) <;> (with_reducible rfl)
                            case' r2_22 =>
                              try simp only [Act.put, List.setIfInBounds_toArray, List.set_cons_zero, List.set_cons_succ]
                            refine takeH (i := 10) (v := ?v2_23) rfl (by kernel_rfl) (by kernel_rfl) (by kernel_rfl) (fun _ _ _ h => h) (by rfl) ?y2_23 (O.sel [false, false, false, true, false, false]) ?r2_23
                            case y2_23 =>
                              intro WW hSw
                              (go_simp) <;> (with_reducible rfl)
                            case' r2_23 =>
                              try simp only [Act.put, List.setIfInBounds_toArray, List.set_cons_zero, List.set_cons_succ]
                            refine takeH (i := 11) (v := ?v2_24) rfl (by kernel_rfl) (by kernel_rfl) (by kernel_rfl) (fun _ _ _ h => h) (by rfl) ?y2_24 (O.sel [false, false, false, true, false, false]) ?r2_24
                            case y2_24 =>
                              intro WW hSw
                              (go_simp) <;> (with_reducible rfl)
                            case' r2_24 =>
                              try simp only [Act.put, List.setIfInBounds_toArray, List.set_cons_zero, List.set_cons_succ]
                            refine takeH (i := 12) (v := ?v2_25) rfl (by kernel_rfl) (by kernel_rfl) (by kernel_rfl) (fun _ _ _ h => h) (by rfl) ?y2_25 (O.sel [false, false, false, true, false, false]) ?r2_25
                            case y2_25 =>
                              intro WW hSw
                              (go_simp) <;> (with_reducible rfl)
                            case' r2_25 =>
                              try simp only [Act.put, List.setIfInBounds_toArray, List.set_cons_zero, List.set_cons_succ]
                            revert O
                            exact hT2_1.out p2_19 w2_20'
                          refine consH rfl (fun K hK => ?_) ?_
                          · have cs := O.facts
                            simp only [factsP, cellsP, roomP, foots_cons, foots_nil, foots_append, foot_pt, ptb, ptb_mapA, foot_mapA, factsP_mapA, foot_bun, List.append_nil, List.nil_append, List.cons_append, List.nodup_cons, List.nodup_nil, List.mem_cons, List.not_mem_nil, List.mem_singleton, List.forall_mem_cons, not_or, not_false_eq_true, and_true, true_and, or_false, false_or, forall_eq_or_imp, forall_eq, implies_true, Nat.zero_add, Nat.reduceAdd, and_assoc, foot_tabA, factsP_tabA, ptb_tabA] at cs
                            have v1 := V2.out _ O.fr
                            go_simp
                            apply Mem.atK
                            case h => repeat' (first | (with_reducible exact O) | (with_reducible apply Mem.drew) | (with_reducible apply Mem.drewN) | (with_reducible apply Mem.ext) | (with_reducible apply Mem.alloc) | (with_reducible apply Mem.setCell) | (simp only [ptb, ptb_upd, foots_cons, List.mem_cons, World.size_alloc, size_ext, World.size_setCell, true_or, or_true, eq_self_iff_true]))
                            intro w2_26 O'
                            (try clear O)
                            have O := O'
                            clear O'
                            (first | simp only [sel, rst, List.cons_append, List.nil_append, World.size_alloc, size_ext, World.size_setCell, size_setMap, World.size_drew, size_drewN, upd, List.set_cons_zero, List.set_cons_succ, if_true, reduceIte, not_false_eq_true, cs] at O | simp only [sel, rst, List.cons_append, List.nil_append, World.size_alloc, size_ext, World.size_setCell, size_setMap, World.size_drew, size_drewN, upd, List.set_cons_zero, List.set_cons_succ, if_true, reduceIte, not_false_eq_true] at O | skip)
                            (try clear cs)
                            (try clear v1)
                            (try clear v2)
                            (try clear v3)
                            generalize w2_18.heap.size = p2_27 at O ⊢
                            refine hK.out _ _ (O.sel [false, false, false, false, true, false, false]) (fun _ => ?_)
                            clear hK K
                            revert O
                            exact hT2_3.out p2_27 p2_19 w2_26
                          exact AllReadyH.nil
                        refine consH rfl (fun K hK => ?_) ?_
                        · have cs := O.facts
                          simp only [factsP, cellsP, roomP, foots_cons, foots_nil, foots_append, foot_pt, ptb, ptb_mapA, foot_mapA, factsP_mapA, foot_bun, List.append_nil, List.nil_append, List.cons_append, List.nodup_cons, List.nodup_nil, List.mem_cons, List.not_mem_nil, List.mem_singleton, List.forall_mem_cons, not_or, not_false_eq_true, and_true, true_and, or_false, false_or, forall_eq_or_imp, forall_eq, implies_true, Nat.zero_add, Nat.reduceAdd, and_assoc, foot_tabA, factsP_tabA, ptb_tabA] at cs
                          have v1 := V2.out _ O.fr
                          go_simp
                          apply Mem.atK
                          case h => repeat' (first | (with_reducible exact O) | (with_reducible apply Mem.drew) | (with_reducible apply Mem.drewN) | (with_reducible apply Mem.ext) | (with_reducible apply Mem.alloc) | (with_reducible apply Mem.setCell) | (simp only [ptb, ptb_upd, foots_cons, List.mem_cons, World.size_alloc, size_ext, World.size_setCell, true_or, or_true, eq_self_iff_true]))
                          intro w2_28 O'
                          (try clear O)
                          have O := O'
                          clear O'
                          (first | simp only [sel, rst, List.cons_append, List.nil_append, World.size_alloc, size_ext, World.size_setCell, size_setMap, World.size_drew, size_drewN, upd, List.set_cons_zero, List.set_cons_succ, if_true, reduceIte, not_false_eq_true, cs] at O | simp only [sel, rst, List.cons_append, List.nil_append, World.size_alloc, size_ext, World.size_setCell, size_setMap, World.size_drew, size_drewN, upd, List.set_cons_zero, List.set_cons_succ, if_true, reduceIte, not_false_eq_true] at O | skip)
                          (try clear cs)
                          (try clear v1)
                          (try clear v2)
                          (try clear v3)
                          generalize wr2.heap.size = p2_29 at O ⊢
                          refine hK.out _ _ (O.sel [false, false, false, true, false, false]) (fun _ => ?_)
                          clear hK K
                          refine wpAnyH_ready (rs := [7, 13]) (by kernel_rfl) (by simp) ?_
                          refine consH rfl (fun K hK => ?_) ?_
                          · have cs := O.facts
                            simp only [factsP, cellsP, roomP, foots_cons, foots_nil, foots_append, foot_pt, ptb, ptb_mapA, foot_mapA, factsP_mapA, foot_bun, List.append_nil, List.nil_append, List.cons_append, List.nodup_cons, List.nodup_nil, List.mem_cons, List.not_mem_nil, List.mem_singleton, List.forall_mem_cons, not_or, not_false_eq_true, and_true, true_and, or_false, false_or, forall_eq_or_imp, forall_eq, implies_true, Nat.zero_add, Nat.reduceAdd, and_assoc, foot_tabA, factsP_tabA, ptb_tabA] at cs
                            have v1 := V2.out _ O.fr
                            go_simp
                            apply Mem.atCall
                            case h => repeat' (first | (with_reducible exact O) | (with_reducible apply Mem.drew) | (with_reducible apply Mem.drewN) | (with_reducible apply Mem.ext) | (with_reducible apply Mem.alloc) | (with_reducible apply Mem.setCell) | (simp only [ptb, ptb_upd, foots_cons, List.mem_cons, World.size_alloc, size_ext, World.size_setCell, true_or, or_true, eq_self_iff_true]))
                            intro w2_30 O'
                            (try clear O)
                            have O := O'
                            clear O'
                            (first | simp only [sel, rst, List.cons_append, List.nil_append, World.size_alloc, size_ext, World.size_setCell, size_setMap, World.size_drew, size_drewN, upd, List.set_cons_zero, List.set_cons_succ, if_true, reduceIte, not_false_eq_true, cs] at O | simp only [sel, rst, List.cons_append, List.nil_append, World.size_alloc, size_ext, World.size_setCell, size_setMap, World.size_drew, size_drewN, upd, List.set_cons_zero, List.set_cons_succ, if_true, reduceIte, not_false_eq_true] at O | skip)
                            (try clear cs)
                            (try clear v1)
                            (try clear v2)
                            (try clear v3)
                            refine (D.out _ _ _ (O.pre [false, false, false, false, true, false])).mono ?_
                            rintro e w2_30' ⟨rfl, o⟩
                            replace O := O.callp [false, false, false, false, true, false] o
                            clear o
                            simp only [put, List.cons_append, List.nil_append] at O
                            go_wp2_with fail
                            refine hK.out _ _ (O.sel [false, false, false, true, false, false]) (fun _ => ?_)
                            clear hK K
                            refine takeH (i := 8) (v := ?v2_31) rfl (by kernel_rfl) (by kernel_rfl) (by kernel_rfl) (fun _ _ _ h => h) (by rfl) ?y2_31 (O.sel [false, false, false, true, false, false]) ?r2_31
                            case y2_31 =>
                              intro WW hSw
                              (go_simp) <;> (with_reducible rfl)
                            case' r2_31 =>
                              try simp only [Act.put, List.setIfInBounds_toArray, List.set_cons_zero, List.set_cons_succ]
                            refine takeH (i := 9) (v := ?v2_32) rfl (by kernel_rfl) (by kernel_rfl) (by kernel_rfl) (fun _ _ _ h => h) (by rfl) ?y2_32 (O.sel [false, false, false, true, false, false]) ?r2_32
                            case y2_32 =>
                              intro WW hSw
                              (go_simp) <;> (with_reducible rfl)
                            case' r2_32 =>
                              try simp only [Act.put, List.setIfInBounds_toArray, List.set_cons_zero, List.set_cons_succ]
                            refine takeH (i := 10) (v := ?v2_33) rfl (by kernel_rfl) (by kernel_rfl) (by kernel_rfl) (fun _ _ _ h => h) (by rfl) ?y2_33 (O.sel [false, false, false, true, false, false]) ?r2_33
                            case y2_33 =>
                              intro WW hSw
                              (go_simp) <;> (with_reducible rfl)
                            case' r2_33 =>
                              try simp only [Act.put, List.setIfInBounds_toArray, List.set_cons_zero, List.set_cons_succ]
                            refine takeH (i := 11) (v := ?v2_34) rfl (by kernel_rfl) (by kernel_rfl) (by kernel_rfl) (fun _ _ _ h => h) (by rfl) ?y2_34 (O.sel [false, false, false, true, false, false]) ?r2_34
                            case y2_34 =>
                              intro WW hSw
                              (go_simp) <;> (with_reducible rfl)
                            case' r2_34 =>
                              try simp only [Act.put, List.setIfInBounds_toArray, List.set_cons_zero, List.set_cons_succ]
                            refine takeH (i := 12) (v := ?v2_35) rfl (by kernel_rfl) (by kernel_rfl) (by kernel_rfl) (fun _ _ _ h => h) (by rfl) ?y2_35 (O.sel [false, false, false, true, false, false]) ?r2_35
                            case y2_35 =>
                              intro WW hSw
                              (go_simp) <;> (with_reducible rfl)
                            case' r2_35 =>
                              try simp only [Act.put, List.setIfInBounds_toArray, List.set_cons_zero, List.set_cons_succ]
                            revert O
                            exact hT2_2.out p2_29 w2_30'
                          refine consH rfl (fun K hK => ?_) ?_
                          · have cs := O.facts
                            simp only [factsP, cellsP, roomP, foots_cons, foots_nil, foots_append, foot_pt, ptb, ptb_mapA, foot_mapA, factsP_mapA, foot_bun, List.append_nil, List.nil_append, List.cons_append, List.nodup_cons, List.nodup_nil, List.mem_cons, List.not_mem_nil, List.mem_singleton, List.forall_mem_cons, not_or, not_false_eq_true, and_true, true_and, or_false, false_or, forall_eq_or_imp, forall_eq, implies_true, Nat.zero_add, Nat.reduceAdd, and_assoc, foot_tabA, factsP_tabA, ptb_tabA] at cs
                            have v1 := V2.out _ O.fr
                            go_simp
                            apply Mem.atK
                            case h => repeat' (first | (with_reducible exact O) | (with_reducible apply Mem.drew) | (with_reducible apply Mem.drewN) | (with_reducible apply Mem.ext) | (with_reducible apply Mem.alloc) | (with_reducible apply Mem.setCell) | (simp only [ptb, ptb_upd, foots_cons, List.mem_cons, World.size_alloc, size_ext, World.size_setCell, true_or, or_true, eq_self_iff_true]))
                            intro w2_36 O'
                            (try clear O)
                            have O := O'
                            clear O'
                            (first | simp only [sel, rst, List.cons_append, List.nil_append, World.size_alloc, size_ext, World.size_setCell, size_setMap, World.size_drew, size_drewN, upd, List.set_cons_zero, List.set_cons_succ, if_true, reduceIte, not_false_eq_true, cs] at O | simp only [sel, rst, List.cons_append, List.nil_append, World.size_alloc, size_ext, World.size_setCell, size_setMap, World.size_drew, size_drewN, upd, List.set_cons_zero, List.set_cons_succ, if_true, reduceIte, not_false_eq_true] at O | skip)
                            (try clear cs)
                            (try clear v1)
                            (try clear v2)
                            (try clear v3)
                            generalize w2_28.heap.size = p2_37 at O ⊢
                            refine hK.out _ _ (O.sel [false, false, false, false, true, false, false]) (fun _ => ?_)
                            clear hK K
                            replace O := O.swap
                            revert O
                            exact hT2_3.out p2_29 p2_37 w2_36
                          exact AllReadyH.nil
                        exact AllReadyH.nil
                      case' tail =>
                        intro q2_38 q2_39 w2_40 O
                        refine wpAnyH_ready (rs := [7]) (by kernel_rfl) (by simp) ?_
                        refine consH rfl (fun K hK => ?_) AllReadyH.nil
                        have cs := O.facts
                        simp only [factsP, cellsP, roomP, foots_cons, foots_nil, foots_append, foot_pt, ptb, ptb_mapA, foot_mapA, factsP_mapA, foot_bun, List.append_nil, List.nil_append, List.cons_append, List.nodup_cons, List.nodup_nil, List.mem_cons, List.not_mem_nil, List.mem_singleton, List.forall_mem_cons, not_or, not_false_eq_true, and_true, true_and, or_false, false_or, forall_eq_or_imp, forall_eq, implies_true, Nat.zero_add, Nat.reduceAdd, and_assoc, foot_tabA, factsP_tabA, ptb_tabA] at cs
                        have v1 := V2.out _ O.fr
                        go_simp
                        apply Mem.atCall
                        case h => repeat' (first | (with_reducible exact O) | (with_reducible apply Mem.drew) | (with_reducible apply Mem.drewN) | (with_reducible apply Mem.ext) | (with_reducible apply Mem.alloc) | (with_reducible apply Mem.setCell) | (simp only [ptb, ptb_upd, foots_cons, List.mem_cons, World.size_alloc, size_ext, World.size_setCell, true_or, or_true, eq_self_iff_true]))
                        intro w2_41 O'
                        (try clear O)
                        have O := O'
                        clear O'
                        (first | simp only [sel, rst, List.cons_append, List.nil_append, World.size_alloc, size_ext, World.size_setCell, size_setMap, World.size_drew, size_drewN, upd, List.set_cons_zero, List.set_cons_succ, if_true, reduceIte, not_false_eq_true, cs] at O | simp only [sel, rst, List.cons_append, List.nil_append, World.size_alloc, size_ext, World.size_setCell, size_setMap, World.size_drew, size_drewN, upd, List.set_cons_zero, List.set_cons_succ, if_true, reduceIte, not_false_eq_true] at O | skip)
                        (try clear cs)
                        (try clear v1)
                        (try clear v2)
                        (try clear v3)
                        refine (D.out _ _ _ (O.pre [false, false, false, false, false, true, false])).mono ?_
                        rintro e w2_41' ⟨rfl, o⟩
                        replace O := O.callp [false, false, false, false, false, true, false] o
                        clear o
                        simp only [put, List.cons_append, List.nil_append] at O
                        go_wp2_with fail
                        refine hK.out _ _ (O.sel [false, false, false, false, true, false, false]) (fun _ => ?_)
                        clear hK K
                        refine takeH (i := 8) (v := ?v2_42) rfl (by kernel_rfl) (by kernel_rfl) (by kernel_rfl) (fun _ _ _ h => h) (by rfl) ?y2_42 (O.sel [false, false, false, false, true, false, false]) ?r2_42
                        case y2_42 =>
                          intro WW hSw
                          (go_simp) <;> (with_reducible rfl)
                        case' r2_42 =>
                          try simp only [Act.put, List.setIfInBounds_toArray, List.set_cons_zero, List.set_cons_succ]
                        refine takeH (i := 9) (v := ?v2_43) rfl (by kernel_rfl) (by kernel_rfl) (by kernel_rfl) (fun _ _ _ h => h) (by rfl) ?y2_43 (O.sel [false, false, false, false, true, false, false]) ?r2_43
                        case y2_43 =>
                          intro WW hSw
                          (go_simp) <;> (with_reducible rfl)
                        case' r2_43 =>
                          try simp only [Act.put, List.setIfInBounds_toArray, List.set_cons_zero, List.set_cons_succ]
                        refine takeH (i := 10) (v := ?v2_44) rfl (by kernel_rfl) (by kernel_rfl) (by kernel_rfl) (fun _ _ _ h => h) (by rfl) ?y2_44 (O.sel [false, false, false, false, true, false, false]) ?r2_44
                        case y2_44 =>
                          intro WW hSw
                          (go_simp) <;> (with_reducible rfl)
                        case' r2_44 =>
                          try simp only [Act.put, List.setIfInBounds_toArray, List.set_cons_zero, List.set_cons_succ]
                        refine takeH (i := 11) (v := ?v2_45) rfl (by kernel_rfl) (by kernel_rfl) (by kernel_rfl) (fun _ _ _ h => h) (by rfl) ?y2_45 (O.sel [false, false, false, false, true, false, false]) ?r2_45
                        case y2_45 =>
                          intro WW hSw
                          (go_simp) <;> (with_reducible rfl)
                        case' r2_45 =>
                          try simp only [Act.put, List.setIfInBounds_toArray, List.set_cons_zero, List.set_cons_succ]
                        refine takeH (i := 12) (v := ?v2_46) rfl (by kernel_rfl) (by kernel_rfl) (by kernel_rfl) (fun _ _ _ h => h) (by rfl) ?y2_46 (O.sel [false, false, false, false, true, false, false]) ?r2_46
                        case y2_46 =>
                          intro WW hSw
                          (go_simp) <;> (with_reducible rfl)
                        case' r2_46 =>
                          try simp only [Act.put, List.setIfInBounds_toArray, List.set_cons_zero, List.set_cons_succ]
                        revert O
                        exact hT2_0.out q2_38 q2_39 w2_41'
                    case' tail =>
                      intro q2_47 w2_48 O
                      refine wpAnyH_ready (rs := [13]) (by kernel_rfl) (by simp) ?_
                      refine consH rfl (fun K hK => ?_) AllReadyH.nil
                      have cs := O.facts
                      simp only [factsP, cellsP, roomP, foots_cons, foots_nil, foots_append, foot_pt, ptb, ptb_mapA, foot_mapA, factsP_mapA, foot_bun, List.append_nil, List.nil_append, List.cons_append, List.nodup_cons, List.nodup_nil, List.mem_cons, List.not_mem_nil, List.mem_singleton, List.forall_mem_cons, not_or, not_false_eq_true, and_true, true_and, or_false, false_or, forall_eq_or_imp, forall_eq, implies_true, Nat.zero_add, Nat.reduceAdd, and_assoc, foot_tabA, factsP_tabA, ptb_tabA] at cs
                      have v1 := V2.out _ O.fr
                      go_simp
                      apply Mem.atK
                      case h => repeat' (first | (with_reducible exact O) | (with_reducible apply Mem.drew) | (with_reducible apply Mem.drewN) | (with_reducible apply Mem.ext) | (with_reducible apply Mem.alloc) | (with_reducible apply Mem.setCell) | (simp only [ptb, ptb_upd, foots_cons, List.mem_cons, World.size_alloc, size_ext, World.size_setCell, true_or, or_true, eq_self_iff_true]))
                      intro w2_49 O'
                      (try clear O)
                      have O := O'
                      clear O'
                      (first | simp only [sel, rst, List.cons_append, List.nil_append, World.size_alloc, size_ext, World.size_setCell, size_setMap, World.size_drew, size_drewN, upd, List.set_cons_zero, List.set_cons_succ, if_true, reduceIte, not_false_eq_true, cs] at O | simp only [sel, rst, List.cons_append, List.nil_append, World.size_alloc, size_ext, World.size_setCell, size_setMap, World.size_drew, size_drewN, upd, List.set_cons_zero, List.set_cons_succ, if_true, reduceIte, not_false_eq_true] at O | skip)
                      (try clear cs)
                      (try clear v1)
                      (try clear v2)
                      (try clear v3)
                      generalize w2_48.heap.size = p2_50 at O ⊢
                      refine hK.out _ _ (O.sel [false, false, false, false, true, false, false]) (fun _ => ?_)
                      clear hK K
                      replace O := O.swap
                      revert O
                      exact hT2_0.out q2_47 p2_50 w2_49
                  case' tail =>
                    intro q2_51 w2_52 O
                    refine wpAnyH_ready (rs := [14]) (by kernel_rfl) (by simp) ?_
                    refine consH rfl (fun K hK => ?_) AllReadyH.nil
                    have cs := O.facts
                    simp only [factsP, cellsP, roomP, foots_cons, foots_nil, foots_append, foot_pt, ptb, ptb_mapA, foot_mapA, factsP_mapA, foot_bun, List.append_nil, List.nil_append, List.cons_append, List.nodup_cons, List.nodup_nil, List.mem_cons, List.not_mem_nil, List.mem_singleton, List.forall_mem_cons, not_or, not_false_eq_true, and_true, true_and, or_false, false_or, forall_eq_or_imp, forall_eq, implies_true, Nat.zero_add, Nat.reduceAdd, and_assoc, foot_tabA, factsP_tabA, ptb_tabA] at cs
                    have v1 := V2.out _ O.fr
                    go_simp
                    apply Mem.atK
                    case h => repeat' (first | (with_reducible exact O) | (with_reducible apply Mem.drew) | (with_reducible apply Mem.drewN) | (with_reducible apply Mem.ext) | (with_reducible apply Mem.alloc) | (with_reducible apply Mem.setCell) | (simp only [ptb, ptb_upd, foots_cons, List.mem_cons, World.size_alloc, size_ext, World.size_setCell, true_or, or_true, eq_self_iff_true]))
                    intro w2_53 O'
                    (try clear O)
                    have O := O'
                    clear O'
                    (first | simp only [sel, rst, List.cons_append, List.nil_append, World.size_alloc, size_ext, World.size_setCell, size_setMap, World.size_drew, size_drewN, upd, List.set_cons_zero, List.set_cons_succ, if_true, reduceIte, not_false_eq_true, cs] at O | simp only [sel, rst, List.cons_append, List.nil_append, World.size_alloc, size_ext, World.size_setCell, size_setMap, World.size_drew, size_drewN, upd, List.set_cons_zero, List.set_cons_succ, if_true, reduceIte, not_false_eq_true] at O | skip)
                    (try clear cs)
                    (try clear v1)
                    (try clear v2)
                    (try clear v3)
                    generalize w2_52.heap.size = p2_54 at O ⊢
                    refine hK.out _ _ (O.sel [false, false, false, false, true, false, false]) (fun _ => ?_)
                    clear hK K
                    revert O
                    exact hT2_0.out p2_54 q2_51 w2_53
                case' tail =>
                  intro q2_55 q2_56 w2_57 O
                refine wpAnyH_ready (rs := [15]) (by kernel_rfl) (by simp) ?_
                refine consH rfl (fun K hK => ?_) AllReadyH.nil
                have cs := O.facts
                simp only [factsP, cellsP, roomP, foots_cons, foots_nil, foots_append, foot_pt, ptb, ptb_mapA, foot_mapA, factsP_mapA, foot_bun, List.append_nil, List.nil_append, List.cons_append, List.nodup_cons, List.nodup_nil, List.mem_cons, List.not_mem_nil, List.mem_singleton, List.forall_mem_cons, not_or, not_false_eq_true, and_true, true_and, or_false, false_or, forall_eq_or_imp, forall_eq, implies_true, Nat.zero_add, Nat.reduceAdd, and_assoc, foot_tabA, factsP_tabA, ptb_tabA] at cs
                have v1 := V2.out _ O.fr
                go_simp
                apply Mem.atK
                case h => repeat' (first | (with_reducible exact O) | (with_reducible apply Mem.drew) | (with_reducible apply Mem.drewN) | (with_reducible apply Mem.ext) | (with_reducible apply Mem.alloc) | (with_reducible apply Mem.setCell) | (simp only [ptb, ptb_upd, foots_cons, List.mem_cons, World.size_alloc, size_ext, World.size_setCell, true_or, or_true, eq_self_iff_true]))
                intro w2_58 O'
                (try clear O)
                have O := O'
                clear O'
                (first | simp only [sel, rst, List.cons_append, List.nil_append, World.size_alloc, size_ext, World.size_setCell, size_setMap, World.size_drew, size_drewN, upd, List.set_cons_zero, List.set_cons_succ, if_true, reduceIte, not_false_eq_true, cs] at O | simp only [sel, rst, List.cons_append, List.nil_append, World.size_alloc, size_ext, World.size_setCell, size_setMap, World.size_drew, size_drewN, upd, List.set_cons_zero, List.set_cons_succ, if_true, reduceIte, not_false_eq_true] at O | skip)
                (try clear cs)
                (try clear v1)
                (try clear v2)
                (try clear v3)
                refine hK.out _ _ (O.sel [false, false, false, false, true, false, false]) (fun _ => ?_)
                clear hK K
                refine wpAnyH_ready (rs := [16]) (by kernel_rfl) (by simp) ?_
                refine consH rfl (fun K hK => ?_) AllReadyH.nil
                have cs := O.facts
                simp only [factsP, cellsP, roomP, foots_cons, foots_nil, foots_append, foot_pt, ptb, ptb_mapA, foot_mapA, factsP_mapA, foot_bun, List.append_nil, List.nil_append, List.cons_append, List.nodup_cons, List.nodup_nil, List.mem_cons, List.not_mem_nil, List.mem_singleton, List.forall_mem_cons, not_or, not_false_eq_true, and_true, true_and, or_false, false_or, forall_eq_or_imp, forall_eq, implies_true, Nat.zero_add, Nat.reduceAdd, and_assoc, foot_tabA, factsP_tabA, ptb_tabA] at cs
                have v1 := V2.out _ O.fr
                go_simp
                apply Mem.atK
                case h => repeat' (first | (with_reducible exact O) | (with_reducible apply Mem.drew) | (with_reducible apply Mem.drewN) | (with_reducible apply Mem.ext) | (with_reducible apply Mem.alloc) | (with_reducible apply Mem.setCell) | (simp only [ptb, ptb_upd, foots_cons, List.mem_cons, World.size_alloc, size_ext, World.size_setCell, true_or, or_true, eq_self_iff_true]))
                intro w2_59 O'
                (try clear O)
                have O := O'
                clear O'
                (first | simp only [sel, rst, List.cons_append, List.nil_append, World.size_alloc, size_ext, World.size_setCell, size_setMap, World.size_drew, size_drewN, upd, List.set_cons_zero, List.set_cons_succ, if_true, reduceIte, not_false_eq_true, cs] at O | simp only [sel, rst, List.cons_append, List.nil_append, World.size_alloc, size_ext, World.size_setCell, size_setMap, World.size_drew, size_drewN, upd, List.set_cons_zero, List.set_cons_succ, if_true, reduceIte, not_false_eq_true] at O | skip)
                (try clear cs)
                (try clear v1)
                (try clear v2)
                (try clear v3)
                refine hK.out _ _ (O.sel [false, false, false, false, true, false, false]) (fun _ => ?_)
                clear hK K
                refine takeH (i := 17) (v := ?v2_60) rfl (by kernel_rfl) (by kernel_rfl) (by kernel_rfl) (fun _ _ _ h => h) (by rfl) ?y2_60 (O.sel [false, false, false, false, true, false, false]) ?r2_60
                case y2_60 =>
                  intro WW hSw
                  (go_simp) <;> (with_reducible rfl)
                case' r2_60 =>
                  try simp only [Act.put, List.setIfInBounds_toArray, List.set_cons_zero, List.set_cons_succ]
                refine takeH (i := 18) (v := ?v2_61) rfl (by kernel_rfl) (by kernel_rfl) (by kernel_rfl) (fun _ _ _ h => h) (by rfl) ?y2_61 (O.sel [false, false, false, false, true, false, false]) ?r2_61
                case y2_61 =>
                  intro WW hSw
                  (go_simp) <;> (with_reducible rfl)
                case' r2_61 =>
                  try simp only [Act.put, List.setIfInBounds_toArray, List.set_cons_zero, List.set_cons_succ]
                refine wpAnyH_done (by kernel_rfl) ?_ _
                go_wp2_with fail
                go_meet
                exact ⟨_, _, rfl, rfl, rfl, rfl, O.swap⟩
              case rest =>
                clear O cs v1
                obtain ⟨qA, qB, rfl, rfl, rfl, rfl, O⟩ := hcut
                have cs := O.facts
                simp only [factsP, cellsP, roomP, foots_cons, foots_nil, foots_append, foot_pt, ptb, ptb_mapA, foot_mapA, factsP_mapA, foot_bun, List.append_nil, List.nil_append, List.cons_append, List.nodup_cons, List.nodup_nil, List.mem_cons, List.not_mem_nil, List.mem_singleton, List.forall_mem_cons, not_or, not_false_eq_true, and_true, true_and, or_false, false_or, forall_eq_or_imp, forall_eq, implies_true, Nat.zero_add, Nat.reduceAdd, and_assoc, foot_tabA, factsP_tabA, ptb_tabA] at cs
                have v1 := V2.out _ O.fr
                go_wp2_with fail
                go_roundw
                case rel => exact ⟨k + 1, m1, by omega, by go_num, O.sel [false, false, false, false, true, true, true]⟩
                case measure => simp [intOf]; omega
          · have hk2 : (ok == 1) = false := by simp [hk1]
            generalize hpp : accept10 1 m i3 ⟨br, bn⟩ ov = pp
            obtain ⟨⟨pbr, pbn⟩, pm, pe, m1⟩ := pp
            have D := Lib.hid (fun W tb mb h => m_Accept W tb mb 1 m i3 ⟨br, bn⟩ ov h i3wf)
            rw [hpp] at D
            simp only [Ballot.val] at D
            clear hpp
            have cs := O.facts
            simp only [factsP, cellsP, roomP, foots_cons, foots_nil, foots_append, foot_pt, ptb, ptb_mapA, foot_mapA, factsP_mapA, foot_bun, List.append_nil, List.nil_append, List.cons_append, List.nodup_cons, List.nodup_nil, List.mem_cons, List.not_mem_nil, List.mem_singleton, List.forall_mem_cons, not_or, not_false_eq_true, and_true, true_and, or_false, false_or, forall_eq_or_imp, forall_eq, implies_true, Nat.zero_add, Nat.reduceAdd, and_assoc, foot_tabA, factsP_tabA, ptb_tabA] at cs
            have v1 := V2.out _ O.fr
            go_wp2_with fail
            go_cut [21, 22, 23] (fun s14 s15 s16 wc => ∃ pB : Nat, s14 = .pointer (some ⟨pB, 0, none⟩) ∧ s15 = .bool pm ∧ s16 = .int .i64 pe ∧
              Mem w [] wc [.pt pB [.int .u32 pbr, .int .u8 pbn] 33, .pt w3.heap.size [.int .u64 3, .int .i64 9, .int .i64 0, .int .u32 0] 31, tabA (w1'.heap.size + 1) w1'.heap.size 1 m, tabA (w.heap.size + 1) w.heap.size 1 m1])
            case first =>
              apply region_held_mem [true, false, false] (by kernel_rfl)
              case O => repeat' (first | (with_reducible exact O) | (with_reducible apply Mem.drew) | (with_reducible apply Mem.drewN) | (with_reducible apply Mem.ext) | (with_reducible apply Mem.alloc) | (with_reducible apply Mem.setCell) | (simp only [ptb, ptb_upd, foots_cons, List.mem_cons, World.size_alloc, size_ext, World.size_setCell, true_or, or_true, eq_self_iff_true]))
              case' h =>
                intro wr3 O'
                (try clear O)
                have O := O'
                clear O'
                (first | simp only [sel, rst, List.cons_append, List.nil_append, World.size_alloc, size_ext, World.size_setCell, size_setMap, World.size_drew, size_drewN, upd, List.set_cons_zero, List.set_cons_succ, if_true, reduceIte, not_false_eq_true, cs] at O | simp only [sel, rst, List.cons_append, List.nil_append, World.size_alloc, size_ext, World.size_setCell, size_setMap, World.size_drew, size_drewN, upd, List.set_cons_zero, List.set_cons_succ, if_true, reduceIte, not_false_eq_true] at O | skip)
                (try clear cs)
                (try clear v1)
                (try clear v2)
                (try clear v3)
              refine takeH (i := 0) (v := ?v3_1) rfl (by kernel_rfl) (by kernel_rfl) (by kernel_rfl) (fun _ _ _ h => h) (by rfl) ?y3_1 (O.sel [true, false, false]) ?r3_1
              case y3_1 =>
                intro WW hSw
                (go_simp) <;> (with_reducible rfl)
              case' r3_1 =>
                try simp only [Act.put, List.setIfInBounds_toArray, List.set_cons_zero, List.set_cons_succ]
              refine takeH (i := 1) (v := ?v3_2) rfl (by kernel_rfl) (by kernel_rfl) (by kernel_rfl) (fun _ _ _ h => h) (by rfl) ?y3_2 (O.sel [true, false, false]) ?r3_2
              case y3_2 =>
                intro WW hSw
                replace hSw : Mem _ _ WW _ := hSw
                have cs := hSw.facts
                simp only [sel, factsP, cellsP, roomP, foots_cons, foots_nil, foots_append, foot_pt, ptb, ptb_mapA, foot_mapA, factsP_mapA, foot_bun, List.append_nil, List.nil_append, List.cons_append, List.nodup_cons, List.nodup_nil, List.mem_cons, List.not_mem_nil, List.mem_singleton, List.forall_mem_cons, not_or, not_false_eq_true, and_true, true_and, or_false, false_or, forall_eq_or_imp, forall_eq, implies_true, Nat.zero_add, Nat.reduceAdd, and_assoc, foot_tabA, factsP_tabA, ptb_tabA] at cs
                have v1 := V2.out _ hSw.fr
                (go_simp) <;> (with_reducible rfl)
              case' r3_2 =>
                try simp only [Act.put, List.setIfInBounds_toArray, List.set_cons_zero, List.set_cons_succ]
              refine takeH (i := 2) (v := ?v3_3) rfl (by kernel_rfl) (by kernel_rfl) (by kernel_rfl) (fun _ _ _ h => h) (by rfl) ?y3_3 (O.sel [true, false, false]) ?r3_3
              case y3_3 =>
                intro WW hSw
                (go_simp) <;> (with_reducible rfl)
              case' r3_3 =>
                try simp only [Act.put, List.setIfInBounds_toArray, List.set_cons_zero, List.set_cons_succ]
              refine takeH (i := 3) (v := ?v3_4) rfl (by kernel_rfl) (by kernel_rfl) (by kernel_rfl) (fun _ _ _ h => h) (by rfl) ?y3_4 (O.sel [true, false, false]) ?r3_4
              case y3_4 =>
                intro WW hSw
                (go_simp) <;> (with_reducible rfl)
              case' r3_4 =>
                try simp only [Act.put, List.setIfInBounds_toArray, List.set_cons_zero, List.set_cons_succ]
              refine takeH (i := 4) (v := ?v3_5) rfl (by kernel_rfl) (by kernel_rfl) (by kernel_rfl) (fun _ _ _ h => h) (by rfl) ?y3_5 (O.sel [true, false, false]) ?r3_5
              case y3_5 =>
                intro WW hSw
                replace hSw : Mem _ _ WW _ := hSw
                have cs := hSw.facts
                simp only [sel, factsP, cellsP, roomP, foots_cons, foots_nil, foots_append, foot_pt, ptb, ptb_mapA, foot_mapA, factsP_mapA, foot_bun, List.append_nil, List.nil_append, List.cons_append, List.nodup_cons, List.nodup_nil, List.mem_cons, List.not_mem_nil, List.mem_singleton, List.forall_mem_cons, not_or, not_false_eq_true, and_true, true_and, or_false, false_or, forall_eq_or_imp, forall_eq, implies_true, Nat.zero_add, Nat.reduceAdd, and_assoc, foot_tabA, factsP_tabA, ptb_tabA] at cs
                have v1 := V2.out _ hSw.fr
                (go_simp) <;> (with_reducible rfl)
              case' r3_5 =>
                try simp only [Act.put, List.setIfInBounds_toArray, List.set_cons_zero, List.set_cons_succ]
              refine takeH (i := 5) (v := ?v3_6) rfl (by kernel_rfl) (by kernel_rfl) (by kernel_rfl) (fun _ _ _ h => h) (by rfl) ?y3_6 (O.sel [true, false, false]) ?r3_6
              case y3_6 =>
                intro WW hSw
                (go_simp) <;> (with_reducible rfl)
              case' r3_6 =>
                try simp only [Act.put, List.setIfInBounds_toArray, List.set_cons_zero, List.set_cons_succ]
              refine takeH (i := 6) (v := ?v3_7) rfl (by kernel_rfl) (by kernel_rfl) (by kernel_rfl) (fun _ _ _ h => h) (by rfl) ?y3_7 (O.sel [true, false, false]) ?r3_7
              case y3_7 =>
                intro WW hSw
                replace hSw : Mem _ _ WW _ := hSw
                have cs := hSw.facts
                simp only [sel, factsP, cellsP, roomP, foots_cons, foots_nil, foots_append, foot_pt, ptb, ptb_mapA, foot_mapA, factsP_mapA, foot_bun, List.append_nil, List.nil_append, List.cons_append, List.nodup_cons, List.nodup_nil, List.mem_cons, List.not_mem_nil, List.mem_singleton, List.forall_mem_cons, not_or, not_false_eq_true, and_true, true_and, or_false, false_or, forall_eq_or_imp, forall_eq, implies_true, Nat.zero_add, Nat.reduceAdd, and_assoc, foot_tabA, factsP_tabA, ptb_tabA] at cs
                have v1 := V2.out _ hSw.fr
                (go_simp) <;> (with_reducible rfl)
              case' r3_7 =>
                try simp only [Act.put, List.setIfInBounds_toArray, List.set_cons_zero, List.set_cons_succ]
              refine takeH (i := 7) (v := ?v3_8) rfl (by kernel_rfl) (by kernel_rfl) (by kernel_rfl) (fun _ _ _ h => h) (by rfl) ?y3_8 (O.sel [true, false, false]) ?r3_8
              case y3_8 =>
                intro WW hSw
                (go_simp) <;> (with_reducible rfl)
              case' r3_8 =>
                try simp only [Act.put, List.setIfInBounds_toArray, List.set_cons_zero, List.set_cons_succ]
              refine takeH (i := 8) (v := ?v3_9) rfl (by kernel_rfl) (by kernel_rfl) (by kernel_rfl) (fun _ _ _ h => h) (by rfl) ?y3_9 (O.sel [true, false, false]) ?r3_9
              case y3_9 =>
                intro WW hSw
                (go_simp) <;> (with_reducible rfl)
              case' r3_9 =>
                try simp only [Act.put, List.setIfInBounds_toArray, List.set_cons_zero, List.set_cons_succ]
              refine takeH (i := 9) (v := ?v3_10) rfl (by kernel_rfl) (by kernel_rfl) (by kernel_rfl) (fun _ _ _ h => h) (by rfl) ?y3_10 (O.sel [true, false, false]) ?r3_10
              case y3_10 =>
                intro WW hSw
                replace hSw : Mem _ _ WW _ := hSw
                have cs := hSw.facts
                simp only [sel, factsP, cellsP, roomP, foots_cons, foots_nil, foots_append, foot_pt, ptb, ptb_mapA, foot_mapA, factsP_mapA, foot_bun, List.append_nil, List.nil_append, List.cons_append, List.nodup_cons, List.nodup_nil, List.mem_cons, List.not_mem_nil, List.mem_singleton, List.forall_mem_cons, not_or, not_false_eq_true, and_true, true_and, or_false, false_or, forall_eq_or_imp, forall_eq, implies_true, Nat.zero_add, Nat.reduceAdd, and_assoc, foot_tabA, factsP_tabA, ptb_tabA] at cs
                have v1 := V2.out _ hSw.fr
                (go_simp) <;> (with_reducible rfl)
              case' r3_10 =>
                try simp only [Act.put, List.setIfInBounds_toArray, List.set_cons_zero, List.set_cons_succ]
              refine takeH (i := 10) (v := ?v3_11) rfl (by kernel_rfl) (by kernel_rfl) (by kernel_rfl) (fun _ _ _ h => h) (by rfl) ?y3_11 (O.sel [true, false, false]) ?r3_11
              case y3_11 =>
                intro WW hSw
                (go_simp) <;> (with_reducible rfl)
              case' r3_11 =>
                try simp only [Act.put, List.setIfInBounds_toArray, List.set_cons_zero, List.set_cons_succ]
              refine takeH (i := 11) (v := ?v3_12) rfl (by kernel_rfl) (by kernel_rfl) (by kernel_rfl) (fun _ _ _ h => h) (by rfl) ?y3_12 (O.sel [true, false, false]) ?r3_12
              case y3_12 =>
                intro WW hSw
                replace hSw : Mem _ _ WW _ := hSw
                have cs := hSw.facts
                simp only [sel, factsP, cellsP, roomP, foots_cons, foots_nil, foots_append, foot_pt, ptb, ptb_mapA, foot_mapA, factsP_mapA, foot_bun, List.append_nil, List.nil_append, List.cons_append, List.nodup_cons, List.nodup_nil, List.mem_cons, List.not_mem_nil, List.mem_singleton, List.forall_mem_cons, not_or, not_false_eq_true, and_true, true_and, or_false, false_or, forall_eq_or_imp, forall_eq, implies_true, Nat.zero_add, Nat.reduceAdd, and_assoc, foot_tabA, factsP_tabA, ptb_tabA] at cs
                have v1 := V2.out _ hSw.fr
                (go_simp) <;> (with_reducible rfl)
              case' r3_12 =>
                try simp only [Act.put, List.setIfInBounds_toArray, List.set_cons_zero, List.set_cons_succ]
              apply cutT1
              case main =>
                intro hT3_0
                refine wpAnyH_ready (rs := [12, 17]) (by kernel_rfl) (by simp) ?_
                refine consH rfl (fun K hK => ?_) ?_
                · have cs := O.facts
                  simp only [factsP, cellsP, roomP, foots_cons, foots_nil, foots_append, foot_pt, ptb, ptb_mapA, foot_mapA, factsP_mapA, foot_bun, List.append_nil, List.nil_append, List.cons_append, List.nodup_cons, List.nodup_nil, List.mem_cons, List.not_mem_nil, List.mem_singleton, List.forall_mem_cons, not_or, not_false_eq_true, and_true, true_and, or_false, false_or, forall_eq_or_imp, forall_eq, implies_true, Nat.zero_add, Nat.reduceAdd, and_assoc, foot_tabA, factsP_tabA, ptb_tabA] at cs
                  have v1 := V2.out _ O.fr
                  go_simp
                  apply Mem.atCall
                  case h => repeat' (first | (with_reducible exact O) | (with_reducible apply Mem.drew) | (with_reducible apply Mem.drewN) | (with_reducible apply Mem.ext) | (with_reducible apply Mem.alloc) | (with_reducible apply Mem.setCell) | (simp only [ptb, ptb_upd, foots_cons, List.mem_cons, World.size_alloc, size_ext, World.size_setCell, true_or, or_true, eq_self_iff_true]))
                  intro w3_13 O'
                  (try clear O)
                  have O := O'
                  clear O'
                  (first | simp only [sel, rst, List.cons_append, List.nil_append, World.size_alloc, size_ext, World.size_setCell, size_setMap, World.size_drew, size_drewN, upd, List.set_cons_zero, List.set_cons_succ, if_true, reduceIte, not_false_eq_true, cs] at O | simp only [sel, rst, List.cons_append, List.nil_append, World.size_alloc, size_ext, World.size_setCell, size_setMap, World.size_drew, size_drewN, upd, List.set_cons_zero, List.set_cons_succ, if_true, reduceIte, not_false_eq_true] at O | skip)
                  (try clear cs)
                  (try clear v1)
                  (try clear v2)
                  (try clear v3)
                  refine (D.out _ _ _ (O.pre [false, false, true])).mono ?_
                  rintro e w3_13' ⟨rfl, o⟩
                  replace O := O.callp [false, false, true] o
                  clear o
                  simp only [put, List.cons_append, List.nil_append] at O
                  go_wp2_with fail
                  refine hK.out _ _ (O.sel [true, false, false]) (fun _ => ?_)
                  clear hK K
                  refine takeH (i := 13) (v := ?v3_14) rfl (by kernel_rfl) (by kernel_rfl) (by kernel_rfl) (fun _ _ _ h => h) (by rfl) ?y3_14 (O.sel [true, false, false]) ?r3_14
                  case y3_14 =>
                    intro WW hSw
                    (go_simp) <;> (with_reducible rfl)
                  case' r3_14 =>
                    try simp only [Act.put, List.setIfInBounds_toArray, List.set_cons_zero, List.set_cons_succ]
                  refine takeH (i := 14) (v := ?v3_15) rfl (by kernel_rfl) (by kernel_rfl) (by kernel_rfl) (fun _ _ _ h => h) (by rfl) ?y3_15 (O.sel [true, false, false]) ?r3_15
                  case y3_15 =>
                    intro WW hSw
                    (go_simp) <;> (with_reducible rfl)
                  case' r3_15 =>
                    try simp only [Act.put, List.setIfInBounds_toArray, List.set_cons_zero, List.set_cons_succ]
                  refine takeH (i := 15) (v := ?v3_16) rfl (by kernel_rfl) (by kernel_rfl) (by kernel_rfl) (fun _ _ _ h => h) (by rfl) ?y3_16 (O.sel [true, false, false]) ?r3_16
                  case y3_16 =>
                    intro WW hSw
                    (go_simp) <;> (with_reducible rfl)
                  case' r3_16 =>
                    try simp only [Act.put, List.setIfInBounds_toArray, List.set_cons_zero, List.set_cons_succ]
                  refine takeH (i := 16) (v := ?v3_17) rfl (by kernel_rfl) (by kernel_rfl) (by kernel_rfl) (fun _ _ _ h => h) (by rfl) ?y3_17 (O.sel [true, false, false]) ?r3_17
                  case y3_17 =>
                    intro WW hSw
                    (go_simp) <;> (with_reducible rfl)
                  case' r3_17 =>
                    try simp only [Act.put, List.setIfInBounds_toArray, List.set_cons_zero, List.set_cons_succ]
                  refine wpAnyH_ready (rs := [17]) (by kernel_rfl) (by simp) ?_
                  refine consH rfl (fun K hK => ?_) AllReadyH.nil
                  have cs := O.facts
                  simp only [factsP, cellsP, roomP, foots_cons, foots_nil, foots_append, foot_pt, ptb, ptb_mapA, foot_mapA, factsP_mapA, foot_bun, List.append_nil, List.nil_append, List.cons_append, List.nodup_cons, List.nodup_nil, List.mem_cons, List.not_mem_nil, List.mem_singleton, List.forall_mem_cons, not_or, not_false_eq_true, and_true, true_and, or_false, false_or, forall_eq_or_imp, forall_eq, implies_true, Nat.zero_add, Nat.reduceAdd, and_assoc, foot_tabA, factsP_tabA, ptb_tabA] at cs
                  have v1 := V2.out _ O.fr
                  go_simp
                  apply Mem.atK
                  case h => repeat' (first | (with_reducible exact O) | (with_reducible apply Mem.drew) | (with_reducible apply Mem.drewN) | (with_reducible apply Mem.ext) | (with_reducible apply Mem.alloc) | (with_reducible apply Mem.setCell) | (simp only [ptb, ptb_upd, foots_cons, List.mem_cons, World.size_alloc, size_ext, World.size_setCell, true_or, or_true, eq_self_iff_true]))
                  intro w3_18 O'
                  (try clear O)
                  have O := O'
                  clear O'
                  (first | simp only [sel, rst, List.cons_append, List.nil_append, World.size_alloc, size_ext, World.size_setCell, size_setMap, World.size_drew, size_drewN, upd, List.set_cons_zero, List.set_cons_succ, if_true, reduceIte, not_false_eq_true, cs] at O | simp only [sel, rst, List.cons_append, List.nil_append, World.size_alloc, size_ext, World.size_setCell, size_setMap, World.size_drew, size_drewN, upd, List.set_cons_zero, List.set_cons_succ, if_true, reduceIte, not_false_eq_true] at O | skip)
                  (try clear cs)
                  (try clear v1)
                  (try clear v2)
                  (try clear v3)
                  generalize w3_13'.heap.size = p3_19 at O ⊢
                  refine hK.out _ _ (O.sel [false, true, false, false]) (fun _ => ?_)
                  clear hK K
                  revert O
                  exact hT3_0.out p3_19 w3_18
                refine consH rfl (fun K hK => ?_) ?_
                · have cs := O.facts
                  simp only [factsP, cellsP, roomP, foots_cons, foots_nil, foots_append, foot_pt, ptb, ptb_mapA, foot_mapA, factsP_mapA, foot_bun, List.append_nil, List.nil_append, List.cons_append, List.nodup_cons, List.nodup_nil, List.mem_cons, List.not_mem_nil, List.mem_singleton, List.forall_mem_cons, not_or, not_false_eq_true, and_true, true_and, or_false, false_or, forall_eq_or_imp, forall_eq, implies_true, Nat.zero_add, Nat.reduceAdd, and_assoc, foot_tabA, factsP_tabA, ptb_tabA] at cs
                  have v1 := V2.out _ O.fr
                  go_simp
                  apply Mem.atK
                  case h => repeat' (first | (with_reducible exact O) | (with_reducible apply Mem.drew) | (with_reducible apply Mem.drewN) | (with_reducible apply Mem.ext) | (with_reducible apply Mem.alloc) | (with_reducible apply Mem.setCell) | (simp only [ptb, ptb_upd, foots_cons, List.mem_cons, World.size_alloc, size_ext, World.size_setCell, true_or, or_true, eq_self_iff_true]))
                  intro w3_20 O'
                  (try clear O)
                  have O := O'
                  clear O'
                  (first | simp only [sel, rst, List.cons_append, List.nil_append, World.size_alloc, size_ext, World.size_setCell, size_setMap, World.size_drew, size_drewN, upd, List.set_cons_zero, List.set_cons_succ, if_true, reduceIte, not_false_eq_true, cs] at O | simp only [sel, rst, List.cons_append, List.nil_append, World.size_alloc, size_ext, World.size_setCell, size_setMap, World.size_drew, size_drewN, upd, List.set_cons_zero, List.set_cons_succ, if_true, reduceIte, not_false_eq_true] at O | skip)
                  (try clear cs)
                  (try clear v1)
                  (try clear v2)
                  (try clear v3)
                  generalize wr3.heap.size = p3_21 at O ⊢
                  refine hK.out _ _ (O.sel [false, true, false, false]) (fun _ => ?_)
                  clear hK K
                  refine wpAnyH_ready (rs := [12]) (by kernel_rfl) (by simp) ?_
                  refine consH rfl (fun K hK => ?_) AllReadyH.nil
                  have cs := O.facts
                  simp only [factsP, cellsP, roomP, foots_cons, foots_nil, foots_append, foot_pt, ptb, ptb_mapA, foot_mapA, factsP_mapA, foot_bun, List.append_nil, List.nil_append, List.cons_append, List.nodup_cons, List.nodup_nil, List.mem_cons, List.not_mem_nil, List.mem_singleton, List.forall_mem_cons, not_or, not_false_eq_true, and_true, true_and, or_false, false_or, forall_eq_or_imp, forall_eq, implies_true, Nat.zero_add, Nat.reduceAdd, and_assoc, foot_tabA, factsP_tabA, ptb_tabA] at cs
                  have v1 := V2.out _ O.fr
                  go_simp
                  apply Mem.atCall
                  case h => repeat' (first | (with_reducible exact O) | (with_reducible apply Mem.drew) | (with_reducible apply Mem.drewN) | (with_reducible apply Mem.ext) | (with_reducible apply Mem.alloc) | (with_reducible apply Mem.setCell) | (simp only [ptb, ptb_upd, foots_cons, List.mem_cons, World.size_alloc, size_ext, World.size_setCell, true_or, or_true, eq_self_iff_true]))
                  intro w3_22 O'
                  (try clear O)
                  have O := O'
                  clear O'
                  (first | simp only [sel, rst, List.cons_append, List.nil_append, World.size_alloc, size_ext, World.size_setCell, size_setMap, World.size_drew, size_drewN, upd, List.set_cons_zero, List.set_cons_succ, if_true, reduceIte, not_false_eq_true, cs] at O | simp only [sel, rst, List.cons_append, List.nil_append, World.size_alloc, size_ext, World.size_setCell, size_setMap, World.size_drew, size_drewN, upd, List.set_cons_zero, List.set_cons_succ, if_true, reduceIte, not_false_eq_true] at O | skip)
                  (try clear cs)
                  (try clear v1)
                  (try clear v2)
                  (try clear v3)
                  refine (D.out _ _ _ (O.pre [false, false, false, true])).mono ?_
                  rintro e w3_22' ⟨rfl, o⟩
                  replace O := O.callp [false, false, false, true] o
                  clear o
                  simp only [put, List.cons_append, List.nil_append] at O
                  go_wp2_with fail
                  refine hK.out _ _ (O.sel [false, true, false, false]) (fun _ => ?_)
                  clear hK K
                  refine takeH (i := 13) (v := ?v3_23) rfl (by kernel_rfl) (by kernel_rfl) (by kernel_rfl) (fun _ _ _ h => h) (by rfl) ?y3_23 (O.sel [false, true, false, false]) ?r3_23
                  case y3_23 =>
                    intro WW hSw
                    (go_simp) <;> (with_reducible rfl)
                  case' r3_23 =>
                    try simp only [Act.put, List.setIfInBounds_toArray, List.set_cons_zero, List.set_cons_succ]
                  refine takeH (i := 14) (v := ?v3_24) rfl (by kernel_rfl) (by kernel_rfl) (by kernel_rfl) (fun _ _ _ h => h) (by rfl) ?y3_24 (O.sel [false, true, false, false]) ?r3_24
                  case y3_24 =>
                    intro WW hSw
                    (go_simp) <;> (with_reducible rfl)
                  case' r3_24 =>
                    try simp only [Act.put, List.setIfInBounds_toArray, List.set_cons_zero, List.set_cons_succ]
                  refine takeH (i := 15) (v := ?v3_25) rfl (by kernel_rfl) (by kernel_rfl) (by kernel_rfl) (fun _ _ _ h => h) (by rfl) ?y3_25 (O.sel [false, true, false, false]) ?r3_25
                  case y3_25 =>
                    intro WW hSw
                    (go_simp) <;> (with_reducible rfl)
                  case' r3_25 =>
                    try simp only [Act.put, List.setIfInBounds_toArray, List.set_cons_zero, List.set_cons_succ]
                  refine takeH (i := 16) (v := ?v3_26) rfl (by kernel_rfl) (by kernel_rfl) (by kernel_rfl) (fun _ _ _ h => h) (by rfl) ?y3_26 (O.sel [false, true, false, false]) ?r3_26
                  case y3_26 =>
                    intro WW hSw
                    (go_simp) <;> (with_reducible rfl)
                  case' r3_26 =>
                    try simp only [Act.put, List.setIfInBounds_toArray, List.set_cons_zero, List.set_cons_succ]
                  revert O
                  exact hT3_0.out p3_21 w3_22'
                exact AllReadyH.nil
              case' tail =>
                intro q3_27 w3_28 O
              refine wpAnyH_ready (rs := [18]) (by kernel_rfl) (by simp) ?_
              refine consH rfl (fun K hK => ?_) AllReadyH.nil
              have cs := O.facts
              simp only [factsP, cellsP, roomP, foots_cons, foots_nil, foots_append, foot_pt, ptb, ptb_mapA, foot_mapA, factsP_mapA, foot_bun, List.append_nil, List.nil_append, List.cons_append, List.nodup_cons, List.nodup_nil, List.mem_cons, List.not_mem_nil, List.mem_singleton, List.forall_mem_cons, not_or, not_false_eq_true, and_true, true_and, or_false, false_or, forall_eq_or_imp, forall_eq, implies_true, Nat.zero_add, Nat.reduceAdd, and_assoc, foot_tabA, factsP_tabA, ptb_tabA] at cs
              have v1 := V2.out _ O.fr
              go_simp
              apply Mem.atK
              case h => repeat' (first | (with_reducible exact O) | (with_reducible apply Mem.drew) | (with_reducible apply Mem.drewN) | (with_reducible apply Mem.ext) | (with_reducible apply Mem.alloc) | (with_reducible apply Mem.setCell) | (simp only [ptb, ptb_upd, foots_cons, List.mem_cons, World.size_alloc, size_ext, World.size_setCell, true_or, or_true, eq_self_iff_true]))
              intro w3_29 O'
              (try clear O)
              have O := O'
              clear O'
              (first | simp only [sel, rst, List.cons_append, List.nil_append, World.size_alloc, size_ext, World.size_setCell, size_setMap, World.size_drew, size_drewN, upd, List.set_cons_zero, List.set_cons_succ, if_true, reduceIte, not_false_eq_true, cs] at O | simp only [sel, rst, List.cons_append, List.nil_append, World.size_alloc, size_ext, World.size_setCell, size_setMap, World.size_drew, size_drewN, upd, List.set_cons_zero, List.set_cons_succ, if_true, reduceIte, not_false_eq_true] at O | skip)
              (try clear cs)
              (try clear v1)
              (try clear v2)
              (try clear v3)
              refine hK.out _ _ (O.sel [false, true, false, false]) (fun _ => ?_)
              clear hK K
              refine takeH (i := 19) (v := ?v3_30) rfl (by kernel_rfl) (by kernel_rfl) (by kernel_rfl) (fun _ _ _ h => h) (by rfl) ?y3_30 (O.sel [false, true, false, false]) ?r3_30
              case y3_30 =>
                intro WW hSw
                (go_simp) <;> (with_reducible rfl)
              case' r3_30 =>
                try simp only [Act.put, List.setIfInBounds_toArray, List.set_cons_zero, List.set_cons_succ]
              refine takeH (i := 20) (v := ?v3_31) rfl (by kernel_rfl) (by kernel_rfl) (by kernel_rfl) (fun _ _ _ h => h) (by rfl) ?y3_31 (O.sel [false, true, false, false]) ?r3_31
              case y3_31 =>
                intro WW hSw
                (go_simp) <;> (with_reducible rfl)
              case' r3_31 =>
                try simp only [Act.put, List.setIfInBounds_toArray, List.set_cons_zero, List.set_cons_succ]
              refine wpAnyH_done (by kernel_rfl) ?_ _
              go_wp2_with fail
              go_meet
              exact ⟨_, rfl, rfl, rfl, O⟩
            case rest =>
              clear O cs v1
              obtain ⟨pB, rfl, rfl, rfl, O⟩ := hcut
              have cs := O.facts
              simp only [factsP, cellsP, roomP, foots_cons, foots_nil, foots_append, foot_pt, ptb, ptb_mapA, foot_mapA, factsP_mapA, foot_bun, List.append_nil, List.nil_append, List.cons_append, List.nodup_cons, List.nodup_nil, List.mem_cons, List.not_mem_nil, List.mem_singleton, List.forall_mem_cons, not_or, not_false_eq_true, and_true, true_and, or_false, false_or, forall_eq_or_imp, forall_eq, implies_true, Nat.zero_add, Nat.reduceAdd, and_assoc, foot_tabA, factsP_tabA, ptb_tabA] at cs
              have v1 := V2.out _ O.fr
              go_wp2_with fail
              go_cut [24, 25, 26] (fun s14 s15 s16 wc => ∃ qB : Nat, s14 = .pointer (some ⟨qB, 0, none⟩) ∧ s15 = .bool pm ∧ s16 = .int .i64 pe ∧
                Mem w [] wc [.pt qB [.int .u32 pbr, .int .u8 pbn] 33, .pt pB [.int .u32 pbr, .int .u8 pbn] 33, .pt w3.heap.size [.int .u64 3, .int .i64 9, .int .i64 0, .int .u32 0] 31, tabA (w1'.heap.size + 1) w1'.heap.size 1 m1, tabA (w.heap.size + 1) w.heap.size 1 m1])
              case first =>
                apply region_held_mem [false, true, false, false] (by kernel_rfl)
                case O => repeat' (first | (with_reducible exact O) | (with_reducible apply Mem.drew) | (with_reducible apply Mem.drewN) | (with_reducible apply Mem.ext) | (with_reducible apply Mem.alloc) | (with_reducible apply Mem.setCell) | (simp only [ptb, ptb_upd, foots_cons, List.mem_cons, World.size_alloc, size_ext, World.size_setCell, true_or, or_true, eq_self_iff_true]))
                case' h =>
                  intro wr4 O'
                  (try clear O)
                  have O := O'
                  clear O'
                  (first | simp only [sel, rst, List.cons_append, List.nil_append, World.size_alloc, size_ext, World.size_setCell, size_setMap, World.size_drew, size_drewN, upd, List.set_cons_zero, List.set_cons_succ, if_true, reduceIte, not_false_eq_true, cs] at O | simp only [sel, rst, List.cons_append, List.nil_append, World.size_alloc, size_ext, World.size_setCell, size_setMap, World.size_drew, size_drewN, upd, List.set_cons_zero, List.set_cons_succ, if_true, reduceIte, not_false_eq_true] at O | skip)
                  (try clear cs)
                  (try clear v1)
                  (try clear v2)
                  (try clear v3)
                refine takeH (i := 0) (v := ?v4_1) rfl (by kernel_rfl) (by kernel_rfl) (by kernel_rfl) (fun _ _ _ h => h) (by rfl) ?y4_1 (O.sel [false, true, false, false]) ?r4_1
                case y4_1 =>
                  intro WW hSw
                  (go_simp) <;> (with_reducible rfl)
                case' r4_1 =>
                  try simp only [Act.put, List.setIfInBounds_toArray, List.set_cons_zero, List.set_cons_succ]
                refine takeH (i := 1) (v := ?v4_2) rfl (by kernel_rfl) (by kernel_rfl) (by kernel_rfl) (fun _ _ _ h => h) (by rfl) ?y4_2 (O.sel [false, true, false, false]) ?r4_2
                case y4_2 =>
                  intro WW hSw
                  replace hSw : Mem _ _ WW _ := hSw
                  have cs := hSw.facts
                  simp only [sel, factsP, cellsP, roomP, foots_cons, foots_nil, foots_append, foot_pt, ptb, ptb_mapA, foot_mapA, factsP_mapA, foot_bun, List.append_nil, List.nil_append, List.cons_append, List.nodup_cons, List.nodup_nil, List.mem_cons, List.not_mem_nil, List.mem_singleton, List.forall_mem_cons, not_or, not_false_eq_true, and_true, true_and, or_false, false_or, forall_eq_or_imp, forall_eq, implies_true, Nat.zero_add, Nat.reduceAdd, and_assoc, foot_tabA, factsP_tabA, ptb_tabA] at cs
                  have v1 := V2.out _ hSw.fr
                  (go_simp) <;> (with_reducible rfl)
                case' r4_2 =>
                  try simp only [Act.put, List.setIfInBounds_toArray, List.set_cons_zero, List.set_cons_succ]
                refine takeH (i := 2) (v := ?v4_3) rfl (by kernel_rfl) (by kernel_rfl) (by kernel_rfl) (fun _ _ _ h => h) (by rfl) ?y4_3 (O.sel [false, true, false, false]) ?r4_3
                case y4_3 =>
                  intro WW hSw
                  (go_simp) <;> (with_reducible rfl)
                case' r4_3 =>
                  try simp only [Act.put, List.setIfInBounds_toArray, List.set_cons_zero, List.set_cons_succ]
                refine takeH (i := 3) (v := ?v4_4) rfl (by kernel_rfl) (by kernel_rfl) (by kernel_rfl) (fun _ _ _ h => h) (by rfl) ?y4_4 (O.sel [false, true, false, false]) ?r4_4
                case y4_4 =>
                  intro WW hSw
                  (go_simp) <;> (with_reducible rfl)
                case' r4_4 =>
                  try simp only [Act.put, List.setIfInBounds_toArray, List.set_cons_zero, List.set_cons_succ]
                refine takeH (i := 4) (v := ?v4_5) rfl (by kernel_rfl) (by kernel_rfl) (by kernel_rfl) (fun _ _ _ h => h) (by rfl) ?y4_5 (O.sel [false, true, false, false]) ?r4_5
                case y4_5 =>
                  intro WW hSw
                  replace hSw : Mem _ _ WW _ := hSw
                  have cs := hSw.facts
                  simp only [sel, factsP, cellsP, roomP, foots_cons, foots_nil, foots_append, foot_pt, ptb, ptb_mapA, foot_mapA, factsP_mapA, foot_bun, List.append_nil, List.nil_append, List.cons_append, List.nodup_cons, List.nodup_nil, List.mem_cons, List.not_mem_nil, List.mem_singleton, List.forall_mem_cons, not_or, not_false_eq_true, and_true, true_and, or_false, false_or, forall_eq_or_imp, forall_eq, implies_true, Nat.zero_add, Nat.reduceAdd, and_assoc, foot_tabA, factsP_tabA, ptb_tabA] at cs
                  have v1 := V2.out _ hSw.fr
                  (go_simp) <;> (with_reducible rfl)
                case' r4_5 =>
                  try simp only [Act.put, List.setIfInBounds_toArray, List.set_cons_zero, List.set_cons_succ]
                refine takeH (i := 5) (v := ?v4_6) rfl (by kernel_rfl) (by kernel_rfl) (by kernel_rfl) (fun _ _ _ h => h) (by rfl) ?y4_6 (O.sel [false, true, false, false]) ?r4_6
                case y4_6 =>
                  intro WW hSw
                  (go_simp) <;> (with_reducible rfl)
                case' r4_6 =>
                  try simp only [Act.put, List.setIfInBounds_toArray, List.set_cons_zero, List.set_cons_succ]
                refine takeH (i := 6) (v := ?v4_7) rfl (by kernel_rfl) (by kernel_rfl) (by kernel_rfl) (fun _ _ _ h => h) (by rfl) ?y4_7 (O.sel [false, true, false, false]) ?r4_7
                case y4_7 =>
                  intro WW hSw
                  replace hSw : Mem _ _ WW _ := hSw
                  have cs := hSw.facts
                  simp only [sel, factsP, cellsP, roomP, foots_cons, foots_nil, foots_append, foot_pt, ptb, ptb_mapA, foot_mapA, factsP_mapA, foot_bun, List.append_nil, List.nil_append, List.cons_append, List.nodup_cons, List.nodup_nil, List.mem_cons, List.not_mem_nil, List.mem_singleton, List.forall_mem_cons, not_or, not_false_eq_true, and_true, true_and, or_false, false_or, forall_eq_or_imp, forall_eq, implies_true, Nat.zero_add, Nat.reduceAdd, and_assoc, foot_tabA, factsP_tabA, ptb_tabA] at cs
                  have v1 := V2.out _ hSw.fr
                  (go_simp) <;> (with_reducible rfl)
                case' r4_7 =>
                  try simp only [Act.put, List.setIfInBounds_toArray, List.set_cons_zero, List.set_cons_succ]
                refine takeH (i := 7) (v := ?v4_8) rfl (by kernel_rfl) (by kernel_rfl) (by kernel_rfl) (fun _ _ _ h => h) (by rfl) ?y4_8 (O.sel [false, true, false, false]) ?r4_8
                case y4_8 =>
                  intro WW hSw
                  (go_simp) <;> (with_reducible rfl)
                case' r4_8 =>
                  try simp only [Act.put, List.setIfInBounds_toArray, List.set_cons_zero, List.set_cons_succ]
                refine takeH (i := 8) (v := ?v4_9) rfl (by kernel_rfl) (by kernel_rfl) (by kernel_rfl) (fun _ _ _ h => h) (by rfl) ?y4_9 (O.sel [false, true, false, false]) ?r4_9
                case y4_9 =>
                  intro WW hSw
                  (go_simp) <;> (with_reducible rfl)
                case' r4_9 =>
                  try simp only [Act.put, List.setIfInBounds_toArray, List.set_cons_zero, List.set_cons_succ]
                refine takeH (i := 9) (v := ?v4_10) rfl (by kernel_rfl) (by kernel_rfl) (by kernel_rfl) (fun _ _ _ h => h) (by rfl) ?y4_10 (O.sel [false, true, false, false]) ?r4_10
                case y4_10 =>
                  intro WW hSw
                  replace hSw : Mem _ _ WW _ := hSw
                  have cs := hSw.facts
                  simp only [sel, factsP, cellsP, roomP, foots_cons, foots_nil, foots_append, foot_pt, ptb, ptb_mapA, foot_mapA, factsP_mapA, foot_bun, List.append_nil, List.nil_append, List.cons_append, List.nodup_cons, List.nodup_nil, List.mem_cons, List.not_mem_nil, List.mem_singleton, List.forall_mem_cons, not_or, not_false_eq_true, and_true, true_and, or_false, false_or, forall_eq_or_imp, forall_eq, implies_true, Nat.zero_add, Nat.reduceAdd, and_assoc, foot_tabA, factsP_tabA, ptb_tabA] at cs
                  have v1 := V2.out _ hSw.fr
                  (go_simp) <;> (with_reducible rfl)
                case' r4_10 =>
                  try simp only [Act.put, List.setIfInBounds_toArray, List.set_cons_zero, List.set_cons_succ]
                refine takeH (i := 10) (v := ?v4_11) rfl (by kernel_rfl) (by kernel_rfl) (by kernel_rfl) (fun _ _ _ h => h) (by rfl) ?y4_11 (O.sel [false, true, false, false]) ?r4_11
                case y4_11 =>
                  intro WW hSw
                  (go_simp) <;> (with_reducible rfl)
                case' r4_11 =>
                  try simp only [Act.put, List.setIfInBounds_toArray, List.set_cons_zero, List.set_cons_succ]
                refine takeH (i := 11) (v := ?v4_12) rfl (by kernel_rfl) (by kernel_rfl) (by kernel_rfl) (fun _ _ _ h => h) (by rfl) ?y4_12 (O.sel [false, true, false, false]) ?r4_12
                case y4_12 =>
                  intro WW hSw
                  replace hSw : Mem _ _ WW _ := hSw
                  have cs := hSw.facts
                  simp only [sel, factsP, cellsP, roomP, foots_cons, foots_nil, foots_append, foot_pt, ptb, ptb_mapA, foot_mapA, factsP_mapA, foot_bun, List.append_nil, List.nil_append, List.cons_append, List.nodup_cons, List.nodup_nil, List.mem_cons, List.not_mem_nil, List.mem_singleton, List.forall_mem_cons, not_or, not_false_eq_true, and_true, true_and, or_false, false_or, forall_eq_or_imp, forall_eq, implies_true, Nat.zero_add, Nat.reduceAdd, and_assoc, foot_tabA, factsP_tabA, ptb_tabA] at cs
                  have v1 := V2.out _ hSw.fr
                  (go_simp) <;> (with_reducible rfl)
                case' r4_12 =>
                  try simp only [Act.put, List.setIfInBounds_toArray, List.set_cons_zero, List.set_cons_succ]
                apply cutT1
                case main =>
                  intro hT4_0
                  refine wpAnyH_ready (rs := [12, 17]) (by kernel_rfl) (by simp) ?_
                  refine consH rfl (fun K hK => ?_) ?_
                  · have cs := O.facts
                    simp only [factsP, cellsP, roomP, foots_cons, foots_nil, foots_append, foot_pt, ptb, ptb_mapA, foot_mapA, factsP_mapA, foot_bun, List.append_nil, List.nil_append, List.cons_append, List.nodup_cons, List.nodup_nil, List.mem_cons, List.not_mem_nil, List.mem_singleton, List.forall_mem_cons, not_or, not_false_eq_true, and_true, true_and, or_false, false_or, forall_eq_or_imp, forall_eq, implies_true, Nat.zero_add, Nat.reduceAdd, and_assoc, foot_tabA, factsP_tabA, ptb_tabA] at cs
                    have v1 := V2.out _ O.fr
                    go_simp
                    apply Mem.atCall
                    case h => repeat' (first | (with_reducible exact O) | (with_reducible apply Mem.drew) | (with_reducible apply Mem.drewN) | (with_reducible apply Mem.ext) | (with_reducible apply Mem.alloc) | (with_reducible apply Mem.setCell) | (simp only [ptb, ptb_upd, foots_cons, List.mem_cons, World.size_alloc, size_ext, World.size_setCell, true_or, or_true, eq_self_iff_true]))
                    intro w4_13 O'
                    (try clear O)
                    have O := O'
                    clear O'
                    (first | simp only [sel, rst, List.cons_append, List.nil_append, World.size_alloc, size_ext, World.size_setCell, size_setMap, World.size_drew, size_drewN, upd, List.set_cons_zero, List.set_cons_succ, if_true, reduceIte, not_false_eq_true, cs] at O | simp only [sel, rst, List.cons_append, List.nil_append, World.size_alloc, size_ext, World.size_setCell, size_setMap, World.size_drew, size_drewN, upd, List.set_cons_zero, List.set_cons_succ, if_true, reduceIte, not_false_eq_true] at O | skip)
                    (try clear cs)
                    (try clear v1)
                    (try clear v2)
                    (try clear v3)
                    refine (D.out _ _ _ (O.pre [false, false, true, false])).mono ?_
                    rintro e w4_13' ⟨rfl, o⟩
                    replace O := O.callp [false, false, true, false] o
                    clear o
                    simp only [put, List.cons_append, List.nil_append] at O
                    go_wp2_with fail
                    refine hK.out _ _ (O.sel [false, true, false, false]) (fun _ => ?_)
                    clear hK K
                    refine takeH (i := 13) (v := ?v4_14) rfl (by kernel_rfl) (by kernel_rfl) (by kernel_rfl) (fun _ _ _ h => h) (by rfl) ?y4_14 (O.sel [false, true, false, false]) ?r4_14
                    case y4_14 =>
                      intro WW hSw
                      (go_simp) <;> (with_reducible rfl)
                    case' r4_14 =>
                      try simp only [Act.put, List.setIfInBounds_toArray, List.set_cons_zero, List.set_cons_succ]
                    refine takeH (i := 14) (v := ?v4_15) rfl (by kernel_rfl) (by kernel_rfl) (by kernel_rfl) (fun _ _ _ h => h) (by rfl) ?y4_15 (O.sel [false, true, false, false]) ?r4_15
                    case y4_15 =>
                      intro WW hSw
                      (go_simp) <;> (with_reducible rfl)
                    case' r4_15 =>
                      try simp only [Act.put, List.setIfInBounds_toArray, List.set_cons_zero, List.set_cons_succ]
                    refine takeH (i := 15) (v := ?v4_16) rfl (by kernel_rfl) (by kernel_rfl) (by kernel_rfl) (fun _ _ _ h => h) (by rfl) ?y4_16 (O.sel [false, true, false, false]) ?r4_16
                    case y4_16 =>
                      intro WW hSw
                      (go_simp) <;> (with_reducible rfl)
                    case' r4_16 =>
                      try simp only [Act.put, List.setIfInBounds_toArray, List.set_cons_zero, List.set_cons_succ]
                    refine takeH (i := 16) (v := ?v4_17) rfl (by kernel_rfl) (by kernel_rfl) (by kernel_rfl) (fun _ _ _ h => h) (by rfl) ?y4_17 (O.sel [false, true, false, false]) ?r4_17
                    case y4_17 =>
                      intro WW hSw
                      (go_simp) <;> (with_reducible rfl)
                    case' r4_17 =>
                      try simp only [Act.put, List.setIfInBounds_toArray, List.set_cons_zero, List.set_cons_succ]
                    refine wpAnyH_ready (rs := [17]) (by kernel_rfl) (by simp) ?_
                    refine consH rfl (fun K hK => ?_) AllReadyH.nil
                    have cs := O.facts
                    simp only [factsP, cellsP, roomP, foots_cons, foots_nil, foots_append, foot_pt, ptb, ptb_mapA, foot_mapA, factsP_mapA, foot_bun, List.append_nil, List.nil_append, List.cons_append, List.nodup_cons, List.nodup_nil, List.mem_cons, List.not_mem_nil, List.mem_singleton, List.forall_mem_cons, not_or, not_false_eq_true, and_true, true_and, or_false, false_or, forall_eq_or_imp, forall_eq, implies_true, Nat.zero_add, Nat.reduceAdd, and_assoc, foot_tabA, factsP_tabA, ptb_tabA] at cs
                    have v1 := V2.out _ O.fr
                    go_simp
                    apply Mem.atK
                    case h => repeat' (first | (with_reducible exact O) | (with_reducible apply Mem.drew) | (with_reducible apply Mem.drewN) | (with_reducible apply Mem.ext) | (with_reducible apply Mem.alloc) | (with_reducible apply Mem.setCell) | (simp only [ptb, ptb_upd, foots_cons, List.mem_cons, World.size_alloc, size_ext, World.size_setCell, true_or, or_true, eq_self_iff_true]))
                    intro w4_18 O'
                    (try clear O)
                    have O := O'
                    clear O'
                    (first | simp only [sel, rst, List.cons_append, List.nil_append, World.size_alloc, size_ext, World.size_setCell, size_setMap, World.size_drew, size_drewN, upd, List.set_cons_zero, List.set_cons_succ, if_true, reduceIte, not_false_eq_true, cs] at O | simp only [sel, rst, List.cons_append, List.nil_append, World.size_alloc, size_ext, World.size_setCell, size_setMap, World.size_drew, size_drewN, upd, List.set_cons_zero, List.set_cons_succ, if_true, reduceIte, not_false_eq_true] at O | skip)
                    (try clear cs)
                    (try clear v1)
                    (try clear v2)
                    (try clear v3)
                    generalize w4_13'.heap.size = p4_19 at O ⊢
                    refine hK.out _ _ (O.sel [false, false, true, false, false]) (fun _ => ?_)
                    clear hK K
                    revert O
                    exact hT4_0.out p4_19 w4_18
                  refine consH rfl (fun K hK => ?_) ?_
                  · have cs := O.facts
                    simp only [factsP, cellsP, roomP, foots_cons, foots_nil, foots_append, foot_pt, ptb, ptb_mapA, foot_mapA, factsP_mapA, foot_bun, List.append_nil, List.nil_append, List.cons_append, List.nodup_cons, List.nodup_nil, List.mem_cons, List.not_mem_nil, List.mem_singleton, List.forall_mem_cons, not_or, not_false_eq_true, and_true, true_and, or_false, false_or, forall_eq_or_imp, forall_eq, implies_true, Nat.zero_add, Nat.reduceAdd, and_assoc, foot_tabA, factsP_tabA, ptb_tabA] at cs
                    have v1 := V2.out _ O.fr
                    go_simp
                    apply Mem.atK
                    case h => repeat' (first | (with_reducible exact O) | (with_reducible apply Mem.drew) | (with_reducible apply Mem.drewN) | (with_reducible apply Mem.ext) | (with_reducible apply Mem.alloc) | (with_reducible apply Mem.setCell) | (simp only [ptb, ptb_upd, foots_cons, List.mem_cons, World.size_alloc, size_ext, World.size_setCell, true_or, or_true, eq_self_iff_true]))
                    intro w4_20 O'
                    (try clear O)
                    have O := O'
                    clear O'
                    (first | simp only [sel, rst, List.cons_append, List.nil_append, World.size_alloc, size_ext, World.size_setCell, size_setMap, World.size_drew, size_drewN, upd, List.set_cons_zero, List.set_cons_succ, if_true, reduceIte, not_false_eq_true, cs] at O | simp only [sel, rst, List.cons_append, List.nil_append, World.size_alloc, size_ext, World.size_setCell, size_setMap, World.size_drew, size_drewN, upd, List.set_cons_zero, List.set_cons_succ, if_true, reduceIte, not_false_eq_true] at O | skip)
                    (try clear cs)
                    (try clear v1)
                    (try clear v2)
                    (try clear v3)
                    generalize wr4.heap.size = p4_21 at O ⊢
                    refine hK.out _ _ (O.sel [false, false, true, false, false]) (fun _ => ?_)
                    clear hK K
                    refine wpAnyH_ready (rs := [12]) (by kernel_rfl) (by simp) ?_
                    refine consH rfl (fun K hK => ?_) AllReadyH.nil
                    have cs := O.facts
                    simp only [factsP, cellsP, roomP, foots_cons, foots_nil, foots_append, foot_pt, ptb, ptb_mapA, foot_mapA, factsP_mapA, foot_bun, List.append_nil, List.nil_append, List.cons_append, List.nodup_cons, List.nodup_nil, List.mem_cons, List.not_mem_nil, List.mem_singleton, List.forall_mem_cons, not_or, not_false_eq_true, and_true, true_and, or_false, false_or, forall_eq_or_imp, forall_eq, implies_true, Nat.zero_add, Nat.reduceAdd, and_assoc, foot_tabA, factsP_tabA, ptb_tabA] at cs
                    have v1 := V2.out _ O.fr
                    go_simp
                    apply Mem.atCall
                    case h => repeat' (first | (with_reducible exact O) | (with_reducible apply Mem.drew) | (with_reducible apply Mem.drewN) | (with_reducible apply Mem.ext) | (with_reducible apply Mem.alloc) | (with_reducible apply Mem.setCell) | (simp only [ptb, ptb_upd, foots_cons, List.mem_cons, World.size_alloc, size_ext, World.size_setCell, true_or, or_true, eq_self_iff_true]))
                    intro w4_22 O'
                    (try clear O)
                    have O := O'
                    clear O'
                    (first | simp only [sel, rst, List.cons_append, List.nil_append, World.size_alloc, size_ext, World.size_setCell, size_setMap, World.size_drew, size_drewN, upd, List.set_cons_zero, List.set_cons_succ, if_true, reduceIte, not_false_eq_true, cs] at O | simp only [sel, rst, List.cons_append, List.nil_append, World.size_alloc, size_ext, World.size_setCell, size_setMap, World.size_drew, size_drewN, upd, List.set_cons_zero, List.set_cons_succ, if_true, reduceIte, not_false_eq_true] at O | skip)
                    (try clear cs)
                    (try clear v1)
                    (try clear v2)
                    (try clear v3)
                    refine (D.out _ _ _ (O.pre [false, false, false, true, false])).mono ?_
                    rintro e w4_22' ⟨rfl, o⟩
                    replace O := O.callp [false, false, false, true, false] o
                    clear o
                    simp only [put, List.cons_append, List.nil_append] at O
                    go_wp2_with fail
                    refine hK.out _ _ (O.sel [false, false, true, false, false]) (fun _ => ?_)
                    clear hK K
                    refine takeH (i := 13) (v := ?v4_23) rfl (by kernel_rfl) (by kernel_rfl) (by kernel_rfl) (fun _ _ _ h => h) (by rfl) ?y4_23 (O.sel [false, false, true, false, false]) ?r4_23
                    case y4_23 =>
                      intro WW hSw
                      (go_simp) <;> (with_reducible rfl)
                    case' r4_23 =>
                      try simp only [Act.put, List.setIfInBounds_toArray, List.set_cons_zero, List.set_cons_succ]
                    refine takeH (i := 14) (v := ?v4_24) rfl (by kernel_rfl) (by kernel_rfl) (by kernel_rfl) (fun _ _ _ h => h) (by rfl) ?y4_24 (O.sel [false, false, true, false, false]) ?r4_24
                    case y4_24 =>
                      intro WW hSw
                      (go_simp) <;> (with_reducible rfl)
                    case' r4_24 =>
                      try simp only [Act.put, List.setIfInBounds_toArray, List.set_cons_zero, List.set_cons_succ]
                    refine takeH (i := 15) (v := ?v4_25) rfl (by kernel_rfl) (by kernel_rfl) (by kernel_rfl) (fun _ _ _ h => h) (by rfl) ?y4_25 (O.sel [false, false, true, false, false]) ?r4_25
                    case y4_25 =>
                      intro WW hSw
                      (go_simp) <;> (with_reducible rfl)
                    case' r4_25 =>
                      try simp only [Act.put, List.setIfInBounds_toArray, List.set_cons_zero, List.set_cons_succ]
                    refine takeH (i := 16) (v := ?v4_26) rfl (by kernel_rfl) (by kernel_rfl) (by kernel_rfl) (fun _ _ _ h => h) (by rfl) ?y4_26 (O.sel [false, false, true, false, false]) ?r4_26
                    case y4_26 =>
                      intro WW hSw
                      (go_simp) <;> (with_reducible rfl)
                    case' r4_26 =>
                      try simp only [Act.put, List.setIfInBounds_toArray, List.set_cons_zero, List.set_cons_succ]
                    revert O
                    exact hT4_0.out p4_21 w4_22'
                  exact AllReadyH.nil
                case' tail =>
                  intro q4_27 w4_28 O
                refine wpAnyH_ready (rs := [18]) (by kernel_rfl) (by simp) ?_
                refine consH rfl (fun K hK => ?_) AllReadyH.nil
                have cs := O.facts
                simp only [factsP, cellsP, roomP, foots_cons, foots_nil, foots_append, foot_pt, ptb, ptb_mapA, foot_mapA, factsP_mapA, foot_bun, List.append_nil, List.nil_append, List.cons_append, List.nodup_cons, List.nodup_nil, List.mem_cons, List.not_mem_nil, List.mem_singleton, List.forall_mem_cons, not_or, not_false_eq_true, and_true, true_and, or_false, false_or, forall_eq_or_imp, forall_eq, implies_true, Nat.zero_add, Nat.reduceAdd, and_assoc, foot_tabA, factsP_tabA, ptb_tabA] at cs
                have v1 := V2.out _ O.fr
                go_simp
                apply Mem.atK
                case h => repeat' (first | (with_reducible exact O) | (with_reducible apply Mem.drew) | (with_reducible apply Mem.drewN) | (with_reducible apply Mem.ext) | (with_reducible apply Mem.alloc) | (with_reducible apply Mem.setCell) | (simp only [ptb, ptb_upd, foots_cons, List.mem_cons, World.size_alloc, size_ext, World.size_setCell, true_or, or_true, eq_self_iff_true]))
                intro w4_29 O'
                (try clear O)
                have O := O'
                clear O'
                (first | simp only [sel, rst, List.cons_append, List.nil_append, World.size_alloc, size_ext, World.size_setCell, size_setMap, World.size_drew, size_drewN, upd, List.set_cons_zero, List.set_cons_succ, if_true, reduceIte, not_false_eq_true, cs] at O | simp only [sel, rst, List.cons_append, List.nil_append, World.size_alloc, size_ext, World.size_setCell, size_setMap, World.size_drew, size_drewN, upd, List.set_cons_zero, List.set_cons_succ, if_true, reduceIte, not_false_eq_true] at O | skip)
                (try clear cs)
                (try clear v1)
                (try clear v2)
                (try clear v3)
                refine hK.out _ _ (O.sel [false, false, true, false, false]) (fun _ => ?_)
                clear hK K
                refine takeH (i := 19) (v := ?v4_30) rfl (by kernel_rfl) (by kernel_rfl) (by kernel_rfl) (fun _ _ _ h => h) (by rfl) ?y4_30 (O.sel [false, false, true, false, false]) ?r4_30
                case y4_30 =>
                  intro WW hSw
                  (go_simp) <;> (with_reducible rfl)
                case' r4_30 =>
                  try simp only [Act.put, List.setIfInBounds_toArray, List.set_cons_zero, List.set_cons_succ]
                refine takeH (i := 20) (v := ?v4_31) rfl (by kernel_rfl) (by kernel_rfl) (by kernel_rfl) (fun _ _ _ h => h) (by rfl) ?y4_31 (O.sel [false, false, true, false, false]) ?r4_31
                case y4_31 =>
                  intro WW hSw
                  (go_simp) <;> (with_reducible rfl)
                case' r4_31 =>
                  try simp only [Act.put, List.setIfInBounds_toArray, List.set_cons_zero, List.set_cons_succ]
                refine wpAnyH_done (by kernel_rfl) ?_ _
                go_wp2_with fail
                go_meet
                exact ⟨_, rfl, rfl, rfl, O⟩
              case rest =>
                clear O cs v1
                obtain ⟨qB, rfl, rfl, rfl, O⟩ := hcut
                have cs := O.facts
                simp only [factsP, cellsP, roomP, foots_cons, foots_nil, foots_append, foot_pt, ptb, ptb_mapA, foot_mapA, factsP_mapA, foot_bun, List.append_nil, List.nil_append, List.cons_append, List.nodup_cons, List.nodup_nil, List.mem_cons, List.not_mem_nil, List.mem_singleton, List.forall_mem_cons, not_or, not_false_eq_true, and_true, true_and, or_false, false_or, forall_eq_or_imp, forall_eq, implies_true, Nat.zero_add, Nat.reduceAdd, and_assoc, foot_tabA, factsP_tabA, ptb_tabA] at cs
                have v1 := V2.out _ O.fr
                go_wp2_with fail
                go_roundw
                case rel => exact ⟨k + 1, m1, by omega, by go_num, O.sel [false, false, true, true, true]⟩
                case measure => simp [intOf]; omega
    case pos =>
      obtain ⟨hlt, h100⟩ := hlt
      obtain ⟨⟨_, hbr⟩, b, off, rfl, hbb, c0, _, _, _, _, c5, c6, c7⟩ := HC.out k _ (List.getElem?_eq_getElem hlt)
      generalize l[k] = o at *
      obtain ⟨ok, oi, ⟨br, bn⟩, ov⟩ := o
      simp only at hbr c0 c5 c6 c7
      have V := Lib.hid (fun W (h : Fr [] w W) => And.intro ((h.cell hbb).trans c0) (And.intro ((h.cell hbb).trans c5) (And.intro ((h.cell hbb).trans c6) ((h.cell hbb).trans c7))))
      clear c0 c5 c6 c7
      skip
      have cs := O.facts
      simp only [factsP, cellsP, roomP, foots_cons, foots_nil, foots_append, foot_pt, ptb, ptb_mapA, foot_mapA, factsP_mapA, foot_bun, List.append_nil, List.nil_append, List.cons_append, List.nodup_cons, List.nodup_nil, List.mem_cons, List.not_mem_nil, List.mem_singleton, List.forall_mem_cons, not_or, not_false_eq_true, and_true, true_and, or_false, false_or, forall_eq_or_imp, forall_eq, implies_true, Nat.zero_add, Nat.reduceAdd, and_assoc, foot_tabA, factsP_tabA, ptb_tabA] at cs
      have v1 := V.out _ O.fr
      go_wp2_with fail
      have J1 := prepare_just (b := ⟨br, bn⟩) (by omega : (0:Int) < 1) HJ.out hbr
      generalize hpp : prepare10 1 m i3 ⟨br, bn⟩ = pp at J1
      obtain ⟨⟨pai, ⟨par, pan⟩, pav⟩, ⟨pbr, pbn⟩, pm, pe, m1⟩ := pp
      have C := Lib.hid (fun W h => m_Prepare W (w.heap.size + 1) w.heap.size 1 m i3 ⟨br, bn⟩ h i3wf)
      rw [hpp] at C
      clear hpp
      have J2 := accept_just (b := ⟨br, bn⟩) (v := ov) (by omega : (0:Int) < 1) J1 hbr
      generalize hpp : accept10 1 m1 i3 ⟨br, bn⟩ ov = pp at J2
      obtain ⟨⟨abr, abn⟩, am, ae, m2⟩ := pp
      have D := Lib.hid (fun W h => m_Accept W (w.heap.size + 1) w.heap.size 1 m1 i3 ⟨br, bn⟩ ov h i3wf)
      rw [hpp] at D
      clear hpp J1
      simp only [Acc.val, Ballot.val] at C J2 D
      have J := Lib.hid J2
      clear J2
      apply region_last_mem (by kernel_rfl) (by kernel_rfl)
      case O => repeat' (first | (with_reducible exact O) | (with_reducible apply Mem.drew) | (with_reducible apply Mem.drewN) | (with_reducible apply Mem.ext) | (with_reducible apply Mem.alloc) | (with_reducible apply Mem.setCell) | (simp only [ptb, ptb_upd, foots_cons, List.mem_cons, World.size_alloc, size_ext, World.size_setCell, true_or, or_true, eq_self_iff_true]))
      case' h =>
        intro wa O'
        (try clear O)
        have O := O'
        clear O'
        (first | simp only [sel, rst, List.cons_append, List.nil_append, World.size_alloc, size_ext, World.size_setCell, size_setMap, World.size_drew, size_drewN, upd, List.set_cons_zero, List.set_cons_succ, if_true, reduceIte, not_false_eq_true, cs] at O | simp only [sel, rst, List.cons_append, List.nil_append, World.size_alloc, size_ext, World.size_setCell, size_setMap, World.size_drew, size_drewN, upd, List.set_cons_zero, List.set_cons_succ, if_true, reduceIte, not_false_eq_true] at O | skip)
        (try clear cs)
        (try clear v1)
        (try clear v2)
        (try clear v3)
      simp only [List.length_cons, List.length_nil, Nat.reduceAdd, Nat.reduceSub, List.take_succ_cons, List.take_zero, List.drop_succ_cons, List.drop_zero]
      have cs := O.facts
      simp only [factsP, cellsP, roomP, foots_cons, foots_nil, foots_append, foot_pt, ptb, ptb_mapA, foot_mapA, factsP_mapA, foot_bun, List.append_nil, List.nil_append, List.cons_append, List.nodup_cons, List.nodup_nil, List.mem_cons, List.not_mem_nil, List.mem_singleton, List.forall_mem_cons, not_or, not_false_eq_true, and_true, true_and, or_false, false_or, forall_eq_or_imp, forall_eq, implies_true, Nat.zero_add, Nat.reduceAdd, and_assoc, foot_tabA, factsP_tabA, ptb_tabA] at cs
      have v1 := V.out _ O.fr
      repeat still_step
      refine wpStill_nil ?_
      go_wp2_with fail
      (try clear cs)
      (try clear v1)
      (try clear v2)
      (try clear v3)
      refine (C.out wa (O.pre [false, false, true])).mono ?_
      rintro e wb ⟨rfl, o⟩
      replace O := O.callp [false, false, true] o
      clear o
      simp only [put, List.cons_append, List.nil_append] at O
      have cs := O.facts
      simp only [factsP, cellsP, roomP, foots_cons, foots_nil, foots_append, foot_pt, ptb, ptb_mapA, foot_mapA, factsP_mapA, foot_bun, List.append_nil, List.nil_append, List.cons_append, List.nodup_cons, List.nodup_nil, List.mem_cons, List.not_mem_nil, List.mem_singleton, List.forall_mem_cons, not_or, not_false_eq_true, and_true, true_and, or_false, false_or, forall_eq_or_imp, forall_eq, implies_true, Nat.zero_add, Nat.reduceAdd, and_assoc, foot_tabA, factsP_tabA, ptb_tabA] at cs
      have v1 := V.out _ O.fr
      go_wp2_with fail
      apply region_last_mem (by kernel_rfl) (by kernel_rfl)
      case O => repeat' (first | (with_reducible exact O) | (with_reducible apply Mem.drew) | (with_reducible apply Mem.drewN) | (with_reducible apply Mem.ext) | (with_reducible apply Mem.alloc) | (with_reducible apply Mem.setCell) | (simp only [ptb, ptb_upd, foots_cons, List.mem_cons, World.size_alloc, size_ext, World.size_setCell, true_or, or_true, eq_self_iff_true]))
      case' h =>
        intro wc O'
        (try clear O)
        have O := O'
        clear O'
        (first | simp only [sel, rst, List.cons_append, List.nil_append, World.size_alloc, size_ext, World.size_setCell, size_setMap, World.size_drew, size_drewN, upd, List.set_cons_zero, List.set_cons_succ, if_true, reduceIte, not_false_eq_true, cs] at O | simp only [sel, rst, List.cons_append, List.nil_append, World.size_alloc, size_ext, World.size_setCell, size_setMap, World.size_drew, size_drewN, upd, List.set_cons_zero, List.set_cons_succ, if_true, reduceIte, not_false_eq_true] at O | skip)
        (try clear cs)
        (try clear v1)
        (try clear v2)
        (try clear v3)
      simp only [List.length_cons, List.length_nil, Nat.reduceAdd, Nat.reduceSub, List.take_succ_cons, List.take_zero, List.drop_succ_cons, List.drop_zero]
      have cs := O.facts
      simp only [factsP, cellsP, roomP, foots_cons, foots_nil, foots_append, foot_pt, ptb, ptb_mapA, foot_mapA, factsP_mapA, foot_bun, List.append_nil, List.nil_append, List.cons_append, List.nodup_cons, List.nodup_nil, List.mem_cons, List.not_mem_nil, List.mem_singleton, List.forall_mem_cons, not_or, not_false_eq_true, and_true, true_and, or_false, false_or, forall_eq_or_imp, forall_eq, implies_true, Nat.zero_add, Nat.reduceAdd, and_assoc, foot_tabA, factsP_tabA, ptb_tabA] at cs
      have v1 := V.out _ O.fr
      repeat still_step
      refine wpStill_nil ?_
      go_wp2_with fail
      (try clear cs)
      (try clear v1)
      (try clear v2)
      (try clear v3)
      refine (D.out wc (O.pre [false, false, true])).mono ?_
      rintro e wd ⟨rfl, o⟩
      replace O := O.callp [false, false, true] o
      clear o
      simp only [put, List.cons_append, List.nil_append] at O
      have cs := O.facts
      simp only [factsP, cellsP, roomP, foots_cons, foots_nil, foots_append, foot_pt, ptb, ptb_mapA, foot_mapA, factsP_mapA, foot_bun, List.append_nil, List.nil_append, List.cons_append, List.nodup_cons, List.nodup_nil, List.mem_cons, List.not_mem_nil, List.mem_singleton, List.forall_mem_cons, not_or, not_false_eq_true, and_true, true_and, or_false, false_or, forall_eq_or_imp, forall_eq, implies_true, Nat.zero_add, Nat.reduceAdd, and_assoc, foot_tabA, factsP_tabA, ptb_tabA] at cs
      have v1 := V.out _ O.fr
      go_wp2_with fail
      go_roundw
      case rel => exact ⟨k + 1, m2, by omega, by omega, by go_num, O, Lib.hid (by simpa using J.out)⟩
      case measure => simp [intOf]; omega
theorem readAcceptorForgets_22 : Try.prog.readableRec 22 = true ∧ 22 < Try.prog.types.size := ⟨by kernel_rfl, of_decide_eq_true (by kernel_rfl)⟩
theorem ownAcceptorForgets : ownKnob Try.prog.godebug = none := by kernel_rfl
theorem laidOutAcceptorForgets : laidOutB Try.prog = true := by kernel_rfl
theorem contractAcceptorForgets (H : Type) (enc : TypeId × Value → H) (W : World) (base : Nat) (args : Array Value) (ds gs : List (DataW H)) (before : List MemPlace)
    (hval : ∀ (j : Nat) t v, Try.f7.params[j]? = some t → args[j]? = some v → Value.okWide Try.prog W .any base t v)
    (hW : DataW.Whole enc Try.prog Try.f7.params.toList Rows.acceptorForgetsSpec.vars false W args.toList ds gs before) (hk : Rows.uptoSmall H (ds ++ gs) = true) :
    Calls Try.prog 7 args W fun e W' => ∃ v, e = .returned v ∧ Rows.acceptorForgetsSpec.post enc Try.prog Try.f7 false true false false W args v W' := by
  have hfin : ∀ W', Below W.heap.size W W' → Rows.acceptorForgetsSpec.post enc Try.prog Try.f7 false true false false W args (.bool true) W' := fun W' hb =>
    post_of_walk (n := 2) (boolT := 4) rfl (fun ds h => by match ds, h with | [a0, a1], _ => exact ⟨rfl, rfl, rfl⟩) rfl rfl Try.underlying4 laidOutAcceptorForgets (fun t ht => by rw [Try.params7] at ht; simp at ht; subst ht; exact readAcceptorForgets_22) hW hb
  have hN : Rows.uptoBulkAll (ds ++ gs) ≤ 1048576 := of_decide_eq_true hk
  obtain ⟨p, q, hA, hV, rfl, hfz, hnd⟩ := hW
  rw [Try.params7] at hA hval
  obtain ⟨v0, vs0, d0, ds0, p0, q0, hargs, rfl, rfl, h0, r0⟩ := trodAll_cons hA
  obtain ⟨v1, vs1, d1, ds1, p1, q1, rfl, rfl, rfl, h1, r1⟩ := trodAll_cons r0
  obtain ⟨rfl, rfl, rfl⟩ := trodAll_nil r1
  obtain rfl : args = #[v0, v1] := by cases args; simp_all
  simp only [List.cons_append, List.nil_append, Rows.uptoBulkAll] at hN
  obtain ⟨A0, len0, cap0, rfl⟩ := okWide_slice Try.underlying22 (hval 0 22 v0 rfl rfl)
  obtain ⟨f0, g0⟩ := h0
  have ty0 := typed_of_trod (N := 1048576) f0 _ _ _ g0 (by simp only; omega)
  obtain ⟨A1, len1, cap1, rfl⟩ := okWide_slice Try.underlying22 (hval 1 22 v1 rfl rfl)
  obtain ⟨f1, g1⟩ := h1
  have ty1 := typed_of_trod (N := 1048576) f1 _ _ _ g1 (by simp only; omega)
  obtain ⟨l, hl⟩ := read_script (Nat.le_refl _) ty0
  obtain ⟨l2, hl2⟩ := read_script (Nat.le_refl _) ty1
  exact (walkForgets _ _ l l2 W hl hl2).mono fun e W' ⟨he, hy⟩ => ⟨_, he, hfin W' hy⟩

set_option maxRecDepth 100000 in
theorem liftedAcceptorForgets (os : Os) (started : os.Started) (H : Type) (enc : TypeId × Value → H) (F : Stop.Interp) :
    ReturnsInHanded {} Try.checked os 7 .any ((Rows.OpenSpec.upto Rows.acceptorForgetsSpec).pre6 enc Try.prog Try.f7 Rows.acceptorForgetsUptoRow.domain false) (((Rows.OpenSpec.upto Rows.acceptorForgetsSpec).at F).post enc Try.prog Try.f7 false true false false) := by
  refine returnsInHanded_of_cond (C := Try.checked) (s := Rows.OpenSpec.upto Rows.acceptorForgetsSpec) (k := Rows.uptoSmall) rfl ownAcceptorForgets started (by kernel_rfl) Try.func7
    (OpenSpec.witness (enc := enc) (C := Try.checked) (s := Rows.OpenSpec.upto Rows.acceptorForgetsSpec) (k := Rows.uptoSmall) rfl false
      ⟨#[], #[.slice none 0 0, .slice none 0 0], []⟩ 8 (by kernel_rfl) (by kernel_rfl) (by kernel_rfl)
      (x := ([.nil, .nil], [], [])) (by kernel_rfl) rfl (by kernel_rfl)) ?_
  intro W base args ds gs before hval hW _ hk _
  exact contractAcceptorForgets H enc W base args ds gs before hval hW hk

theorem AcceptorForgets_holds : Rows.AcceptorForgetsUptoSaid :=
  OpenClaim.holds_of_cond 7 Try.f7 rfl rfl rfl rfl rfl rfl rfl ⟨rfl, rfl, rfl, rfl, rfl⟩ rfl rfl rfl rfl rfl (by kernel_rfl) Try.func7 (by kernel_rfl)
    (of_decide_eq_true (by kernel_rfl)) (by unfold Func.isWrapper; first | (rw [if_pos (by decide +kernel)]; kernel_rfl) | (rw [if_neg (by decide +kernel)]; exact ⟨rfl, rfl⟩))
    (fun os started H enc _ F => liftedAcceptorForgets os started H enc F)
end Go.Proofs.Ytbpanhmpffjmfaa
