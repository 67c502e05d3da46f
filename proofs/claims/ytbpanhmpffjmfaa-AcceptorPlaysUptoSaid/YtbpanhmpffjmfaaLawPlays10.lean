/- PROVED: any script of ballots and instances is answered as the document says (AcceptorPlays): for arguments of bulk at most 1048576, the law returns true, and each argument reads behind the call as it read before. -/
import Derived.Test.YtbpanhmpffjmfaaStep10
set_option linter.unusedVariables false
set_option linter.unusedSimpArgs false
namespace Go.Proofs.Ytbpanhmpffjmfaa
open Go.RowKit Go.WideShapes Go.ChangeShapes Go.ChangeAt Go.Tk

/-- a callee that only reads, met in a region of reads -/
theorem quiet_mem {f : FuncId} {args : Array Value} {w : World} {x : Ext} {v : Value} (h : Calls Try.prog f args (w.ext x) (fun e w' => e = .returned v ∧ Mem (w.ext x) [] w' [])) : Calls Try.prog f args (w.ext x) fun e w'' => e = .returned v ∧ ∃ y, w'' = w.ext y :=
  h.mono fun _ _ ⟨he, hm⟩ => by
    obtain ⟨y, hy⟩ := of_below (hm.fr.below rfl)
    exact ⟨he, _, hy.trans ext_ext⟩
theorem m_Less (a b : Ballot) (w : World) : Calls Try.prog 10 #[a.val, b.val] w (fun e w' => e = .returned (.bool (less a b)) ∧ Mem w [] w' []) :=
  (acc_Less a b w).mono fun _ _ ⟨he, y, hy⟩ => ⟨he, by subst hy; exact Mem.begin.ext⟩

set_option maxRecDepth 100000 in
set_option maxHeartbeats 16000000 in
theorem walkPlays10 (room : Int) (sv : Value) (l : List OpR) (w : World) (hs : Script w sv l) : Calls Try.prog 5 #[.int .i64 room, sv] w (fun e w' => e = .returned (.bool true) ∧ Below w.heap.size w w') := by
  obtain ⟨hl, A, c, rfl, hc⟩ := hs
  have HC := Lib.hid hc
  clear hc
  have O : Mem w [] w [] := Mem.begin
  by_cases hr : 1 ≤ room ∧ room ≤ 4096
  · go_enter Try.func5, Try.ntmps5
    go_wp2_with fail
    refine (m_New _ room hr).mono ?_
    rintro e w1 ⟨rfl, o⟩
    replace O := O.callp [] o
    clear o
    simp only [put, List.cons_append, List.nil_append] at O
    have hr1 := hr.1
    have hr2 := hr.2
    clear hr
    have cs := O.facts
    simp only [factsP, cellsP, roomP, foots_cons, foots_nil, foots_append, foot_pt, ptb, ptb_mapA, foot_mapA, factsP_mapA, foot_bun, List.append_nil, List.nil_append, List.cons_append, List.nodup_cons, List.nodup_nil, List.mem_cons, List.not_mem_nil, List.mem_singleton, List.forall_mem_cons, not_or, not_false_eq_true, and_true, true_and, or_false, false_or, forall_eq_or_imp, forall_eq, implies_true, Nat.zero_add, Nat.reduceAdd, and_assoc, ptb_listA, factsP_listA, refL, foot_tabA, factsP_tabA, ptb_tabA] at cs
    go_wp2_with fail
    first | apply Mem.atCall | apply Mem.atCode | apply Mem.atList
    case h => repeat' (first | (with_reducible exact O) | (with_reducible apply Mem.drew) | (with_reducible apply Mem.drewN) | (with_reducible apply Mem.ext) | (with_reducible apply Mem.alloc) | (with_reducible apply Mem.setCell) | (simp only [ptb, ptb_upd, foots_cons, List.mem_cons, World.size_alloc, size_ext, World.size_setCell, true_or, or_true, eq_self_iff_true]))
    case' k =>
      intro w2 O'
      (try clear O)
      have O := O'
      clear O'
      (first | simp only [sel, rst, List.cons_append, List.nil_append, World.size_alloc, size_ext, World.size_setCell, size_setMap, World.size_drew, size_drewN, upd, List.set_cons_zero, List.set_cons_succ, if_true, reduceIte, not_false_eq_true, cs] at O | simp only [sel, rst, List.cons_append, List.nil_append, World.size_alloc, size_ext, World.size_setCell, size_setMap, World.size_drew, size_drewN, upd, List.set_cons_zero, List.set_cons_succ, if_true, reduceIte, not_false_eq_true] at O | skip)
      (try clear cs)
      (try clear v1)
      (try clear v2)
      (try clear v3)
    refine (m_alive _).mono ?_
    rintro e w3 ⟨rfl, o⟩
    replace O := O.callp [] o
    clear o
    simp only [put, List.cons_append, List.nil_append] at O
    have cs := O.facts
    simp only [factsP, cellsP, roomP, foots_cons, foots_nil, foots_append, foot_pt, ptb, ptb_mapA, foot_mapA, factsP_mapA, foot_bun, List.append_nil, List.nil_append, List.cons_append, List.nodup_cons, List.nodup_nil, List.mem_cons, List.not_mem_nil, List.mem_singleton, List.forall_mem_cons, not_or, not_false_eq_true, and_true, true_and, or_false, false_or, forall_eq_or_imp, forall_eq, implies_true, Nat.zero_add, Nat.reduceAdd, and_assoc, ptb_listA, factsP_listA, refL, foot_tabA, factsP_tabA, ptb_tabA] at cs
    go_wp2_with fail
    go_loopw [9] (fun s9 wr => ∃ (k : Nat) (m : Rows10) (A' : Option Addr) (c' : Nat), k ≤ l.length ∧ k ≤ 300 ∧ s9 = .int .i64 k ∧ m.length ≤ k ∧ Mem w [] wr (tabA (w.heap.size + 1) w.heap.size room m :: refL w3.heap.size room A' c' m)) (fun s9 _ => l.length - (intOf s9).toNat)
    case atStart =>
      refine ⟨0, [], none, 0, by omega, by omega, rfl, by simp, ?_⟩
      have O2 := ((O.listNil (e := 69) (size := 10) (cs := rowCells)).alloc [.int .i64 room, .slice none 0 0] 50)
      exact O2.front [false, false, true]
    case round =>
      clear O cs
      obtain ⟨k, m, A', c', hk, hk300, rfl, hml, O⟩ := hrel
      simp only [refL] at O
      by_cases hlt : k < l.length ∧ k < 300
      case neg =>
        have hcase : (k < l.length ∧ ¬ k < 300) ∨ ¬ k < l.length := by omega
        rcases hcase with ⟨h1, h2⟩ | h1
        all_goals
          have cs := O.facts
          simp only [factsP, cellsP, roomP, foots_cons, foots_nil, foots_append, foot_pt, ptb, ptb_mapA, foot_mapA, factsP_mapA, foot_bun, List.append_nil, List.nil_append, List.cons_append, List.nodup_cons, List.nodup_nil, List.mem_cons, List.not_mem_nil, List.mem_singleton, List.forall_mem_cons, not_or, not_false_eq_true, and_true, true_and, or_false, false_or, forall_eq_or_imp, forall_eq, implies_true, Nat.zero_add, Nat.reduceAdd, and_assoc, ptb_listA, factsP_listA, refL, foot_tabA, factsP_tabA, ptb_tabA] at cs
          go_wp2_with fail
          go_ret
          exact ⟨rfl, O.fr.below rfl⟩
      case pos =>
        obtain ⟨hlt, h300⟩ := hlt
        obtain ⟨⟨hwf, hbr⟩, b, off, rfl, hbb, c0, c1, c2, c3, c4, c5, c6, c7⟩ := HC.out k _ (List.getElem?_eq_getElem hlt)
        obtain ⟨⟨_, hbr0⟩, b0, off0, hA0, _, _, _, _, _, _, d5, d6, _⟩ := HC.out 0 _ (List.getElem?_eq_getElem (by omega))
        injection hA0 with hA0
        injection hA0 with e1 e2
        subst e1 e2
        clear HC
        generalize hlk : l[k] = o at *
        generalize hl0 : l[0] = o0 at *
        clear hlk hl0
        have ST := Lib.hid (fun W h => law_step W (w.heap.size + 1) w.heap.size w3.heap.size room A' c' m o h (by omega) hwf hbr)
        have hs1 := (step_size (most := room) (o := o) ((tab_of (O.pre [true])).2.2.2.nodup)).1
        obtain ⟨ok, ⟨ix, ibk, irp, iix⟩, ⟨br, bn⟩, ov⟩ := o
        obtain ⟨ok0, i0, ⟨b0r, b0n⟩, ov0⟩ := o0
        simp only at hbr c0 c1 c2 c3 c4 c5 c6 c7 hwf hbr0 d5 d6
        have V := Lib.hid (fun W (h : Fr [] w W) => And.intro (roomP_of (Nat.lt_of_lt_of_le hbb h.size)) (And.intro ((h.cell hbb).trans c0) (And.intro ((h.cell hbb).trans c1) (And.intro ((h.cell hbb).trans c2) (And.intro ((h.cell hbb).trans c3) (And.intro ((h.cell hbb).trans c4) (And.intro ((h.cell hbb).trans c5) (And.intro ((h.cell hbb).trans c6) ((h.cell hbb).trans c7)))))))))
        have V0 := Lib.hid (fun W (h : Fr [] w W) => And.intro (roomP_of (Nat.lt_of_lt_of_le hbb h.size)) (And.intro ((h.cell hbb).trans d5) ((h.cell hbb).trans d6)))
        clear c0 c1 c2 c3 c4 c5 c6 c7 d5 d6
        generalize hm2 : step10 room m ⟨ok, ⟨ix, ibk, irp, iix⟩, ⟨br, bn⟩, ov⟩ = m2 at *
        clear hm2
        simp only [OpR.val, refL] at ST
        have hl0 : (0 : Int) < (l.length : Int) := by omega
        skip
        have cs := O.facts
        simp only [factsP, cellsP, roomP, foots_cons, foots_nil, foots_append, foot_pt, ptb, ptb_mapA, foot_mapA, factsP_mapA, foot_bun, List.append_nil, List.nil_append, List.cons_append, List.nodup_cons, List.nodup_nil, List.mem_cons, List.not_mem_nil, List.mem_singleton, List.forall_mem_cons, not_or, not_false_eq_true, and_true, true_and, or_false, false_or, forall_eq_or_imp, forall_eq, implies_true, Nat.zero_add, Nat.reduceAdd, and_assoc, ptb_listA, factsP_listA, refL, foot_tabA, factsP_tabA, ptb_tabA] at cs
        have v1 := V.out _ O.fr
        simp only [roomP, and_assoc] at v1
        have v2 := V0.out _ O.fr
        simp only [roomP, and_assoc] at v2
        go_wp2_with fail
        first | apply Mem.atCall | apply Mem.atCode | apply Mem.atList
        case h => repeat' (first | (with_reducible exact O) | (with_reducible apply Mem.drew) | (with_reducible apply Mem.drewN) | (with_reducible apply Mem.ext) | (with_reducible apply Mem.alloc) | (with_reducible apply Mem.setCell) | (simp only [ptb, ptb_upd, foots_cons, List.mem_cons, World.size_alloc, size_ext, World.size_setCell, true_or, or_true, eq_self_iff_true]))
        case' k =>
          intro x1 O'
          (try clear O)
          have O := O'
          clear O'
          (first | simp only [sel, rst, List.cons_append, List.nil_append, World.size_alloc, size_ext, World.size_setCell, size_setMap, World.size_drew, size_drewN, upd, List.set_cons_zero, List.set_cons_succ, if_true, reduceIte, not_false_eq_true, cs] at O | simp only [sel, rst, List.cons_append, List.nil_append, World.size_alloc, size_ext, World.size_setCell, size_setMap, World.size_drew, size_drewN, upd, List.set_cons_zero, List.set_cons_succ, if_true, reduceIte, not_false_eq_true] at O | skip)
          (try clear cs)
          (try clear v1)
          (try clear v2)
          (try clear v3)
        refine (ST.out x1 (O.pre [true, true, true])).mono ?_
        rintro e x2 ⟨rfl, A2, c2, o⟩
        replace O := O.callp [true, true, true] o
        clear o
        simp only [put, List.cons_append, List.nil_append] at O
        have cs := O.facts
        simp only [factsP, cellsP, roomP, foots_cons, foots_nil, foots_append, foot_pt, ptb, ptb_mapA, foot_mapA, factsP_mapA, foot_bun, List.append_nil, List.nil_append, List.cons_append, List.nodup_cons, List.nodup_nil, List.mem_cons, List.not_mem_nil, List.mem_singleton, List.forall_mem_cons, not_or, not_false_eq_true, and_true, true_and, or_false, false_or, forall_eq_or_imp, forall_eq, implies_true, Nat.zero_add, Nat.reduceAdd, and_assoc, ptb_listA, factsP_listA, refL, foot_tabA, factsP_tabA, ptb_tabA] at cs
        have v1 := V.out _ O.fr
        simp only [roomP, and_assoc] at v1
        have v2 := V0.out _ O.fr
        simp only [roomP, and_assoc] at v2
        go_upto_region 10 with fail
        apply region_quiet_mem (by kernel_rfl) (by kernel_rfl)
        case O => repeat' (first | (with_reducible exact O) | (with_reducible apply Mem.drew) | (with_reducible apply Mem.drewN) | (with_reducible apply Mem.ext) | (with_reducible apply Mem.alloc) | (with_reducible apply Mem.setCell) | (simp only [ptb, ptb_upd, foots_cons, List.mem_cons, World.size_alloc, size_ext, World.size_setCell, true_or, or_true, eq_self_iff_true]))
        case' h =>
          intro x3 O'
          (try clear O)
          have O := O'
          clear O'
          (first | simp only [sel, rst, List.cons_append, List.nil_append, World.size_alloc, size_ext, World.size_setCell, size_setMap, World.size_drew, size_drewN, upd, List.set_cons_zero, List.set_cons_succ, if_true, reduceIte, not_false_eq_true, cs] at O | simp only [sel, rst, List.cons_append, List.nil_append, World.size_alloc, size_ext, World.size_setCell, size_setMap, World.size_drew, size_drewN, upd, List.set_cons_zero, List.set_cons_succ, if_true, reduceIte, not_false_eq_true] at O | skip)
          (try clear cs)
          (try clear v1)
          (try clear v2)
          (try clear v3)
        have cs := O.facts
        simp only [factsP, cellsP, roomP, foots_cons, foots_nil, foots_append, foot_pt, ptb, ptb_mapA, foot_mapA, factsP_mapA, foot_bun, List.append_nil, List.nil_append, List.cons_append, List.nodup_cons, List.nodup_nil, List.mem_cons, List.not_mem_nil, List.mem_singleton, List.forall_mem_cons, not_or, not_false_eq_true, and_true, true_and, or_false, false_or, forall_eq_or_imp, forall_eq, implies_true, Nat.zero_add, Nat.reduceAdd, and_assoc, ptb_listA, factsP_listA, refL, foot_tabA, factsP_tabA, ptb_tabA] at cs
        have v1 := V.out _ O.fr
        simp only [roomP, and_assoc] at v1
        have v2 := V0.out _ O.fr
        simp only [roomP, and_assoc] at v2
        repeat (go_big_quiet_step ((first | (go_at_call 16; exact quiet_mem (m_Count _ _ _ _ _ (O.ext.pre [true]))) | (go_at_call 10; exact quiet_mem (m_Less ⟨br, bn⟩ ⟨b0r, b0n⟩ _)) | (go_at_call 17; exact quiet_mem (ref_Less ⟨br, bn⟩ ⟨b0r, b0n⟩ _)))))
        refine wpQuiet_nil ?_
        intro x4 hq
        (try clear cs)
        (try clear v1)
        (try clear v2)
        (try clear v3)
        replace O := O.qext hq
        clear hq
        have cs := O.facts
        simp only [factsP, cellsP, roomP, foots_cons, foots_nil, foots_append, foot_pt, ptb, ptb_mapA, foot_mapA, factsP_mapA, foot_bun, List.append_nil, List.nil_append, List.cons_append, List.nodup_cons, List.nodup_nil, List.mem_cons, List.not_mem_nil, List.mem_singleton, List.forall_mem_cons, not_or, not_false_eq_true, and_true, true_and, or_false, false_or, forall_eq_or_imp, forall_eq, implies_true, Nat.zero_add, Nat.reduceAdd, and_assoc, ptb_listA, factsP_listA, refL, foot_tabA, factsP_tabA, ptb_tabA] at cs
        have v1 := V.out _ O.fr
        simp only [roomP, and_assoc] at v1
        have v2 := V0.out _ O.fr
        simp only [roomP, and_assoc] at v2
        go_wp2_with fail
        go_roundw
        case rel => exact ⟨k + 1, m2, A2, c2, by omega, by omega, by go_num, by omega, O⟩
        case measure => simp [intOf]; omega
  · skip
    have hbad : ¬ (1 ≤ room ∧ room ≤ 4096) := hr
    go_enter Try.func5, Try.ntmps5
    go_wp2_with fail
    refine (acc_New_bad room _ hbad).mono ?_
    rintro e w1 ⟨rfl, rfl⟩
    by_cases h1 : 1 ≤ room
    · have h2 : ¬ room ≤ 4096 := fun h => hbad ⟨h1, h⟩
      clear hbad hr
      go_wp2_with fail
      refine (m_alive _).mono ?_
      rintro e w3 ⟨rfl, o⟩
      replace O := O.callp [] o
      clear o
      simp only [put, List.cons_append, List.nil_append] at O
      have cs := O.facts
      simp only [factsP, cellsP, roomP, foots_cons, foots_nil, foots_append, foot_pt, ptb, ptb_mapA, foot_mapA, factsP_mapA, foot_bun, List.append_nil, List.nil_append, List.cons_append, List.nodup_cons, List.nodup_nil, List.mem_cons, List.not_mem_nil, List.mem_singleton, List.forall_mem_cons, not_or, not_false_eq_true, and_true, true_and, or_false, false_or, forall_eq_or_imp, forall_eq, implies_true, Nat.zero_add, Nat.reduceAdd, and_assoc, ptb_listA, factsP_listA, refL, foot_tabA, factsP_tabA, ptb_tabA] at cs
      go_wp2_with fail
      go_loopw [9] (fun s9 wr => s9 = .int .i64 0 ∧ Mem w1 [] wr []) (fun s9 _ => 0)
      case atStart =>
        refine ⟨rfl, ?_⟩
        exact (O.alloc _ _).fr0
      case round =>
        clear O cs
        obtain ⟨rfl, O⟩ := hrel
        by_cases hlt : 0 < l.length
        all_goals
          have cs := O.facts
          simp only [factsP, cellsP, roomP, foots_cons, foots_nil, foots_append, foot_pt, ptb, ptb_mapA, foot_mapA, factsP_mapA, foot_bun, List.append_nil, List.nil_append, List.cons_append, List.nodup_cons, List.nodup_nil, List.mem_cons, List.not_mem_nil, List.mem_singleton, List.forall_mem_cons, not_or, not_false_eq_true, and_true, true_and, or_false, false_or, forall_eq_or_imp, forall_eq, implies_true, Nat.zero_add, Nat.reduceAdd, and_assoc, ptb_listA, factsP_listA, refL, foot_tabA, factsP_tabA, ptb_tabA] at cs
          go_wp2_with fail
          go_ret
          exact ⟨rfl, O.fr.below rfl⟩
    · clear hbad hr
      go_wp2_with fail
      refine (m_alive _).mono ?_
      rintro e w3 ⟨rfl, o⟩
      replace O := O.callp [] o
      clear o
      simp only [put, List.cons_append, List.nil_append] at O
      have cs := O.facts
      simp only [factsP, cellsP, roomP, foots_cons, foots_nil, foots_append, foot_pt, ptb, ptb_mapA, foot_mapA, factsP_mapA, foot_bun, List.append_nil, List.nil_append, List.cons_append, List.nodup_cons, List.nodup_nil, List.mem_cons, List.not_mem_nil, List.mem_singleton, List.forall_mem_cons, not_or, not_false_eq_true, and_true, true_and, or_false, false_or, forall_eq_or_imp, forall_eq, implies_true, Nat.zero_add, Nat.reduceAdd, and_assoc, ptb_listA, factsP_listA, refL, foot_tabA, factsP_tabA, ptb_tabA] at cs
      go_wp2_with fail
      go_loopw [9] (fun s9 wr => s9 = .int .i64 0 ∧ Mem w1 [] wr []) (fun s9 _ => 0)
      case atStart =>
        refine ⟨rfl, ?_⟩
        exact (O.alloc _ _).fr0
      case round =>
        clear O cs
        obtain ⟨rfl, O⟩ := hrel
        by_cases hlt : 0 < l.length
        all_goals
          have cs := O.facts
          simp only [factsP, cellsP, roomP, foots_cons, foots_nil, foots_append, foot_pt, ptb, ptb_mapA, foot_mapA, factsP_mapA, foot_bun, List.append_nil, List.nil_append, List.cons_append, List.nodup_cons, List.nodup_nil, List.mem_cons, List.not_mem_nil, List.mem_singleton, List.forall_mem_cons, not_or, not_false_eq_true, and_true, true_and, or_false, false_or, forall_eq_or_imp, forall_eq, implies_true, Nat.zero_add, Nat.reduceAdd, and_assoc, ptb_listA, factsP_listA, refL, foot_tabA, factsP_tabA, ptb_tabA] at cs
          go_wp2_with fail
          go_ret
          exact ⟨rfl, O.fr.below rfl⟩
theorem readAcceptorPlays_3 : Try.prog.readableRec 3 = true ∧ 3 < Try.prog.types.size := ⟨by kernel_rfl, of_decide_eq_true (by kernel_rfl)⟩
theorem readAcceptorPlays_22 : Try.prog.readableRec 22 = true ∧ 22 < Try.prog.types.size := ⟨by kernel_rfl, of_decide_eq_true (by kernel_rfl)⟩
theorem ownAcceptorPlays : ownKnob Try.prog.godebug = none := by kernel_rfl
theorem laidOutAcceptorPlays : laidOutB Try.prog = true := by kernel_rfl
theorem contractAcceptorPlays (H : Type) (enc : TypeId × Value → H) (W : World) (base : Nat) (args : Array Value) (ds gs : List (DataW H)) (before : List MemPlace)
    (hval : ∀ (j : Nat) t v, Try.f5.params[j]? = some t → args[j]? = some v → Value.okWide Try.prog W .any base t v)
    (hW : DataW.Whole enc Try.prog Try.f5.params.toList Rows.acceptorPlaysSpec.vars false W args.toList ds gs before) (hk : Rows.uptoSmall H (ds ++ gs) = true) :
    Calls Try.prog 5 args W fun e W' => ∃ v, e = .returned v ∧ Rows.acceptorPlaysSpec.post enc Try.prog Try.f5 false true false false W args v W' := by
  have hfin : ∀ W', Below W.heap.size W W' → Rows.acceptorPlaysSpec.post enc Try.prog Try.f5 false true false false W args (.bool true) W' := fun W' hb =>
    post_of_walk (n := 2) (boolT := 4) rfl (fun ds h => by match ds, h with | [a0, a1], _ => exact ⟨rfl, rfl, rfl⟩) rfl rfl Try.underlying4 laidOutAcceptorPlays (fun t ht => by rw [Try.params5] at ht; simp at ht; rcases ht with rfl | rfl; exact readAcceptorPlays_3; exact readAcceptorPlays_22) hW hb
  have hN : Rows.uptoBulkAll (ds ++ gs) ≤ 1048576 := of_decide_eq_true hk
  obtain ⟨p, q, hA, hV, rfl, hfz, hnd⟩ := hW
  rw [Try.params5] at hA hval
  obtain ⟨v0, vs0, d0, ds0, p0, q0, hargs, rfl, rfl, h0, r0⟩ := trodAll_cons hA
  obtain ⟨v1, vs1, d1, ds1, p1, q1, rfl, rfl, rfl, h1, r1⟩ := trodAll_cons r0
  obtain ⟨rfl, rfl, rfl⟩ := trodAll_nil r1
  obtain rfl : args = #[v0, v1] := by cases args; simp_all
  simp only [List.cons_append, List.nil_append, Rows.uptoBulkAll] at hN
  obtain ⟨x0, rfl⟩ := okWide_int Try.underlying3 (hval 0 3 v0 rfl rfl)
  obtain ⟨f0, g0⟩ := h0
  have ty0 := typed_of_trod (N := 1048576) f0 _ _ _ g0 (by simp only; omega)
  obtain ⟨A1, len1, cap1, rfl⟩ := okWide_slice Try.underlying22 (hval 1 22 v1 rfl rfl)
  obtain ⟨f1, g1⟩ := h1
  have ty1 := typed_of_trod (N := 1048576) f1 _ _ _ g1 (by simp only; omega)
  obtain ⟨l, hl⟩ := read_script (Nat.le_refl _) ty1
  exact (walkPlays10 _ _ l W hl).mono fun e W' ⟨he, hy⟩ => ⟨_, he, hfin W' hy⟩

set_option maxRecDepth 100000 in
theorem liftedAcceptorPlays (os : Os) (started : os.Started) (H : Type) (enc : TypeId × Value → H) (F : Stop.Interp) :
    ReturnsInHanded {} Try.checked os 5 .any ((Rows.OpenSpec.upto Rows.acceptorPlaysSpec).pre6 enc Try.prog Try.f5 Rows.acceptorPlaysUptoRow.domain false) (((Rows.OpenSpec.upto Rows.acceptorPlaysSpec).at F).post enc Try.prog Try.f5 false true false false) := by
  refine returnsInHanded_of_cond (C := Try.checked) (s := Rows.OpenSpec.upto Rows.acceptorPlaysSpec) (k := Rows.uptoSmall) rfl ownAcceptorPlays started (by kernel_rfl) Try.func5
    (OpenSpec.witness (enc := enc) (C := Try.checked) (s := Rows.OpenSpec.upto Rows.acceptorPlaysSpec) (k := Rows.uptoSmall) rfl false
      ⟨#[], #[.int .i64 0, .slice none 0 0], []⟩ 8 (by kernel_rfl) (by kernel_rfl) (by kernel_rfl)
      (x := ([.lit (.int .i64 0), .nil], [], [])) (by kernel_rfl) rfl (by kernel_rfl)) ?_
  intro W base args ds gs before hval hW _ hk _
  exact contractAcceptorPlays H enc W base args ds gs before hval hW hk

theorem AcceptorPlays_holds : Rows.AcceptorPlaysUptoSaid :=
  OpenClaim.holds_of_cond 5 Try.f5 rfl rfl rfl rfl rfl rfl rfl ⟨rfl, rfl, rfl, rfl, rfl⟩ rfl rfl rfl rfl rfl (by kernel_rfl) Try.func5 (by kernel_rfl)
    (of_decide_eq_true (by kernel_rfl)) (by unfold Func.isWrapper; first | (rw [if_pos (by decide +kernel)]; kernel_rfl) | (rw [if_neg (by decide +kernel)]; exact ⟨rfl, rfl⟩))
    (fun os started H enc _ F => liftedAcceptorPlays os started H enc F)
end Go.Proofs.Ytbpanhmpffjmfaa
