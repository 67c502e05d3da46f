/- WALK: a step of the world of Paxos: a proposer begins a ballot. -/
import Derived.Test.YtkhpikjmhamppaaPx11
set_option linter.unusedVariables false
set_option linter.unusedSimpArgs false
namespace Go.Proofs.Ytkhpikjmhamppaa
open Go.RowKit Go.Tk
set_option maxRecDepth 100000 in
set_option maxHeartbeats 16000000 in
theorem px_begin (w : World) (xb n : Nat) (X : PxM) (P : List ByteArray) (ea eb : Int) (ev : ByteArray) (hn : 1 ≤ n ∧ n ≤ 5) (h : Pre w (X.parts n xb)) (ha : inI64 ea) (hb : inI64 eb) (hsz : X.size ≤ 1000000) (hro : X.round ≤ 1000000) (hI : Inv n P X.st) (hmo : ∀ q ∈ X.props, q.2.1 = none → q.2.2.b.r = 0) :
    Calls Try.prog 23 #[.pointer (some ⟨xb, 0, none⟩), (⟨0, ea, eb, ev⟩ : Ev).val] w (fun e w' => e = .returned (.tuple #[]) ∧ StepPost n xb w X (some ev) w') := by
  obtain ⟨fp, hfp⟩ : ∃ F, F = foots (X.parts n xb) := ⟨_, rfl⟩
  have O : Mem w fp w (X.parts n xb) := by rw [hfp]; exact h
  have HF := Lib.hid hfp
  have HMO := Lib.hid hmo
  have HI := Lib.hid hI
  clear hfp h hmo hI
  obtain ⟨A1, c1, A2, c2, A3, c3, tabs, props, learns, round, vote, B2, d2, l2, B3, d3, l3, B4, d4, l4, B5, d5, l5⟩ := X
  have hs2 : l2.length ≤ 1000000 := by simp only [PxM.size] at hsz; omega
  have hs3 : l3.length ≤ 1000000 := by simp only [PxM.size] at hsz; omega
  have hs4 : l4.length ≤ 1000000 := by simp only [PxM.size] at hsz; omega
  have hs5 : l5.length ≤ 1000000 := by simp only [PxM.size] at hsz; omega
  have HS := Lib.hid hsz
  clear hsz
  simp only at hro
  have P6 := Lib.hid (fun W => q_pick 0 6 ⟨by omega, by omega⟩ (by omega) (by omega) W)
  have e6 : (pickN 0 6 : Int) = 0 := by decide
  rw [e6] at P6
  clear e6
  have hnp : props.length = 3 := by have := HI.out.np; simpa [PxM.st] using this
  have PN := Lib.hid (fun W => q_pick ea 3 ha (by omega) (by omega) W)
  have hk : pickN ea 3 < 3 := pickN_lt (by omega)
  have hk3 : (pickN ea 3 : Int) < 3 := by omega
  generalize pickN ea 3 = k at PN hk hk3
  clear ha hb
  obtain ⟨⟨pb, mo, p⟩, hp⟩ : ∃ t, props[k]? = some t := ⟨_, List.getElem?_eq_getElem (by omega)⟩
  have hps : (PxM.st ⟨A1, c1, A2, c2, A3, c3, tabs, props, learns, round, vote, B2, d2, l2, B3, d3, l3, B4, d4, l4, B5, d5, l5⟩).props[k]? = some p := by
    show (props.map (·.2.2))[k]? = some p
    rw [List.getElem?_map, hp]; rfl
  have hpp := HI.out.props k p hps
  have hpb : (props.map (·.1))[k]? = some pb := by rw [List.getElem?_map, hp]; rfl
  have HPS := Lib.hid hps
  have HPB := Lib.hid hpb
  have hr1 : p.b.r ≤ round := hpp.r0.2
  have hr0 : 0 ≤ round := HI.out.r0
  have hnode := hpp.node
  have hmo := HMO.out _ (List.mem_of_getElem? hp)
  have HP := Lib.hid hp
  clear hp hps hpb hpp
  have hbg : begin11 p (round + 1) ev = (⟨round + 1, p.node⟩, 0, some ⟨p.node, p.n, ⟨round + 1, p.node⟩, [], noA, ev⟩) := by
    unfold begin11
    rw [if_neg (by omega), if_neg (by omega)]
  have BG : Hid (∀ W, Pre W [propA pb mo p] → Calls Try.prog 11 #[.pointer (some ⟨pb, 0, none⟩), .int .u32 (round + 1), .string ev] W (fun e w' => e = .returned (.tuple #[.agg #[.int .u32 (round + 1), .int .u8 p.node], .int .i64 0]) ∧
      ∃ mo' : { x : Option Nat // x = none → round + 1 = 0 }, Mem W (foots [propA pb mo p]) w' [propA pb mo'.1 ⟨p.node, p.n, ⟨round + 1, p.node⟩, [], noA, ev⟩])) := Lib.hid (fun W h => by
    have hc := pA_Begin_any W pb mo p (round + 1) ev h (by omega) (by omega) hmo
    rw [hbg] at hc
    refine hc.mono ?_
    rintro e w' ⟨he, mo', hm, hz⟩
    exact ⟨he, ⟨mo', hz⟩, hm⟩)
  have hwr : IntKind.u32.wrap (round + 1) = round + 1 := by simp [IntKind.wrap, IntKind.signed, IntKind.bits]; omega
  have HR0 := Lib.hid hr0
  clear hbg hmo hnode hr1 hr0
  have H3 := Lib.hid hnp
  clear hnp
  simp only [PxM.parts, PxM.cells] at O
  simp only [Ev.val]
  skip
  go_enter Try.func23, Try.ntmps23
  have cs := O.facts
  simp only [factsP, cellsP, roomP, foots_cons, foots_nil, foots_append, foot_pt, ptb, ptb_mapA, foot_mapA, factsP_mapA, foot_bun, List.append_nil, List.nil_append, List.cons_append, List.nodup_cons, List.nodup_nil, List.mem_cons, List.not_mem_nil, List.mem_singleton, List.forall_mem_cons, not_or, not_false_eq_true, and_true, true_and, or_false, false_or, forall_eq_or_imp, forall_eq, implies_true, Nat.zero_add, Nat.reduceAdd, and_assoc, ptb_listA, factsP_listA, ptb_fam, factsP_fam, ptb_propA, factsP_propA, ptb_learnA, factsP_learnA, ptb_tabA, factsP_tabA, Nat.mul_one, sentCells, ptrCells] at cs
  go_upto_region 2 with fail
  first | apply Mem.atCall | apply Mem.atCode | apply Mem.atList
  case h => repeat' (first | (with_reducible exact O) | (with_reducible apply Mem.drew) | (with_reducible apply Mem.drewN) | (with_reducible apply Mem.ext) | (with_reducible apply Mem.alloc) | (with_reducible apply Mem.setCell) | (simp only [ptb, ptb_upd, foots_cons, List.mem_cons, World.size_alloc, size_ext, World.size_setCell, true_or, or_true, eq_self_iff_true, ptb_listA, ptb_fam, ptb_propA, ptb_learnA, ptb_tabA]))
  case' k =>
    intro w1 O'
    (try clear O)
    have O := O'
    clear O'
    (first | simp only [sel, rst, List.cons_append, List.nil_append, World.size_alloc, size_ext, World.size_setCell, size_setMap, World.size_drew, size_drewN, upd, List.set_cons_zero, List.set_cons_succ, if_true, if_false, reduceIte, not_false_eq_true, ne_lt0, ne_lt1, ne_lt2, ne_lt3, ne_lt4, cs] at O | simp only [sel, rst, List.cons_append, List.nil_append, World.size_alloc, size_ext, World.size_setCell, size_setMap, World.size_drew, size_drewN, upd, List.set_cons_zero, List.set_cons_succ, if_true, if_false, reduceIte, not_false_eq_true, ne_lt0, ne_lt1, ne_lt2, ne_lt3, ne_lt4] at O | skip)
    (try clear cs)
    (try clear v1)
    (try clear v2)
    (try clear v3)
  generalize w.heap.size = vb at O ⊢
  apply region_quiet_mem (by kernel_rfl) (by kernel_rfl)
  case O => repeat' (first | (with_reducible exact O) | (with_reducible apply Mem.drew) | (with_reducible apply Mem.drewN) | (with_reducible apply Mem.ext) | (with_reducible apply Mem.alloc) | (with_reducible apply Mem.setCell) | (simp only [ptb, ptb_upd, foots_cons, List.mem_cons, World.size_alloc, size_ext, World.size_setCell, true_or, or_true, eq_self_iff_true, ptb_listA, ptb_fam, ptb_propA, ptb_learnA, ptb_tabA]))
  case' h =>
    intro w2 O'
    (try clear O)
    have O := O'
    clear O'
    (first | simp only [sel, rst, List.cons_append, List.nil_append, World.size_alloc, size_ext, World.size_setCell, size_setMap, World.size_drew, size_drewN, upd, List.set_cons_zero, List.set_cons_succ, if_true, if_false, reduceIte, not_false_eq_true, ne_lt0, ne_lt1, ne_lt2, ne_lt3, ne_lt4, cs] at O | simp only [sel, rst, List.cons_append, List.nil_append, World.size_alloc, size_ext, World.size_setCell, size_setMap, World.size_drew, size_drewN, upd, List.set_cons_zero, List.set_cons_succ, if_true, if_false, reduceIte, not_false_eq_true, ne_lt0, ne_lt1, ne_lt2, ne_lt3, ne_lt4] at O | skip)
    (try clear cs)
    (try clear v1)
    (try clear v2)
    (try clear v3)
  have cs := O.facts
  simp only [factsP, cellsP, roomP, foots_cons, foots_nil, foots_append, foot_pt, ptb, ptb_mapA, foot_mapA, factsP_mapA, foot_bun, List.append_nil, List.nil_append, List.cons_append, List.nodup_cons, List.nodup_nil, List.mem_cons, List.not_mem_nil, List.mem_singleton, List.forall_mem_cons, not_or, not_false_eq_true, and_true, true_and, or_false, false_or, forall_eq_or_imp, forall_eq, implies_true, Nat.zero_add, Nat.reduceAdd, and_assoc, ptb_listA, factsP_listA, ptb_fam, factsP_fam, ptb_propA, factsP_propA, ptb_learnA, factsP_learnA, ptb_tabA, factsP_tabA, Nat.mul_one, sentCells, ptrCells] at cs
  repeat (go_big_quiet_step ((first | (go_at_call 8; with_reducible exact quietMem (P6.out _)))))
  refine wpQuiet_nil ?_
  intro w3 hq
  (try clear cs)
  (try clear v1)
  (try clear v2)
  (try clear v3)
  replace O := O.qext hq
  clear hq
  clear P6
  obtain ⟨g, hgB, _⟩ := listA_get (cs := ptrCells) (fun _ => rfl) (O.hold (listA 24 1 ptrCells A2 c2 (props.map (·.1))) (by simp)) HPB.out
  subst hgB
  have cs := O.facts
  simp only [factsP, cellsP, roomP, foots_cons, foots_nil, foots_append, foot_pt, ptb, ptb_mapA, foot_mapA, factsP_mapA, foot_bun, List.append_nil, List.nil_append, List.cons_append, List.nodup_cons, List.nodup_nil, List.mem_cons, List.not_mem_nil, List.mem_singleton, List.forall_mem_cons, not_or, not_false_eq_true, and_true, true_and, or_false, false_or, forall_eq_or_imp, forall_eq, implies_true, Nat.zero_add, Nat.reduceAdd, and_assoc, ptb_listA, factsP_listA, ptb_fam, factsP_fam, ptb_propA, factsP_propA, ptb_learnA, factsP_learnA, ptb_tabA, factsP_tabA, Nat.mul_one, sentCells, ptrCells] at cs
  go_upto_region 9 with fail
  first | apply Mem.atCall | apply Mem.atCode | apply Mem.atList
  case h => repeat' (first | (with_reducible exact O) | (with_reducible apply Mem.drew) | (with_reducible apply Mem.drewN) | (with_reducible apply Mem.ext) | (with_reducible apply Mem.alloc) | (with_reducible apply Mem.setCell) | (simp only [ptb, ptb_upd, foots_cons, List.mem_cons, World.size_alloc, size_ext, World.size_setCell, true_or, or_true, eq_self_iff_true, ptb_listA, ptb_fam, ptb_propA, ptb_learnA, ptb_tabA]))
  case' k =>
    intro w4 O'
    (try clear O)
    have O := O'
    clear O'
    (first | simp only [sel, rst, List.cons_append, List.nil_append, World.size_alloc, size_ext, World.size_setCell, size_setMap, World.size_drew, size_drewN, upd, List.set_cons_zero, List.set_cons_succ, if_true, if_false, reduceIte, not_false_eq_true, ne_lt0, ne_lt1, ne_lt2, ne_lt3, ne_lt4, cs] at O | simp only [sel, rst, List.cons_append, List.nil_append, World.size_alloc, size_ext, World.size_setCell, size_setMap, World.size_drew, size_drewN, upd, List.set_cons_zero, List.set_cons_succ, if_true, if_false, reduceIte, not_false_eq_true, ne_lt0, ne_lt1, ne_lt2, ne_lt3, ne_lt4] at O | skip)
    (try clear cs)
    (try clear v1)
    (try clear v2)
    (try clear v3)
  generalize w3.heap.size = sb at O ⊢
  apply region_quiet_mem (by kernel_rfl) (by kernel_rfl)
  case O => repeat' (first | (with_reducible exact O) | (with_reducible apply Mem.drew) | (with_reducible apply Mem.drewN) | (with_reducible apply Mem.ext) | (with_reducible apply Mem.alloc) | (with_reducible apply Mem.setCell) | (simp only [ptb, ptb_upd, foots_cons, List.mem_cons, World.size_alloc, size_ext, World.size_setCell, true_or, or_true, eq_self_iff_true, ptb_listA, ptb_fam, ptb_propA, ptb_learnA, ptb_tabA]))
  case' h =>
    intro w5 O'
    (try clear O)
    have O := O'
    clear O'
    (first | simp only [sel, rst, List.cons_append, List.nil_append, World.size_alloc, size_ext, World.size_setCell, size_setMap, World.size_drew, size_drewN, upd, List.set_cons_zero, List.set_cons_succ, if_true, if_false, reduceIte, not_false_eq_true, ne_lt0, ne_lt1, ne_lt2, ne_lt3, ne_lt4, cs] at O | simp only [sel, rst, List.cons_append, List.nil_append, World.size_alloc, size_ext, World.size_setCell, size_setMap, World.size_drew, size_drewN, upd, List.set_cons_zero, List.set_cons_succ, if_true, if_false, reduceIte, not_false_eq_true, ne_lt0, ne_lt1, ne_lt2, ne_lt3, ne_lt4] at O | skip)
    (try clear cs)
    (try clear v1)
    (try clear v2)
    (try clear v3)
  have cs := O.facts
  simp only [factsP, cellsP, roomP, foots_cons, foots_nil, foots_append, foot_pt, ptb, ptb_mapA, foot_mapA, factsP_mapA, foot_bun, List.append_nil, List.nil_append, List.cons_append, List.nodup_cons, List.nodup_nil, List.mem_cons, List.not_mem_nil, List.mem_singleton, List.forall_mem_cons, not_or, not_false_eq_true, and_true, true_and, or_false, false_or, forall_eq_or_imp, forall_eq, implies_true, Nat.zero_add, Nat.reduceAdd, and_assoc, ptb_listA, factsP_listA, ptb_fam, factsP_fam, ptb_propA, factsP_propA, ptb_learnA, factsP_learnA, ptb_tabA, factsP_tabA, Nat.mul_one, sentCells, ptrCells] at cs
  repeat (go_big_quiet_step ((first | (go_at_call 8; with_reducible exact quietMem (PN.out _)))))
  refine wpQuiet_nil ?_
  intro w6 hq
  (try clear cs)
  (try clear v1)
  (try clear v2)
  (try clear v3)
  replace O := O.qext hq
  clear hq
  clear PN
  have cs := O.facts
  simp only [factsP, cellsP, roomP, foots_cons, foots_nil, foots_append, foot_pt, ptb, ptb_mapA, foot_mapA, factsP_mapA, foot_bun, List.append_nil, List.nil_append, List.cons_append, List.nodup_cons, List.nodup_nil, List.mem_cons, List.not_mem_nil, List.mem_singleton, List.forall_mem_cons, not_or, not_false_eq_true, and_true, true_and, or_false, false_or, forall_eq_or_imp, forall_eq, implies_true, Nat.zero_add, Nat.reduceAdd, and_assoc, ptb_listA, factsP_listA, ptb_fam, factsP_fam, ptb_propA, factsP_propA, ptb_learnA, factsP_learnA, ptb_tabA, factsP_tabA, Nat.mul_one, sentCells, ptrCells] at cs
  go_upto_region 11 with fail
  first | apply Mem.atCall | apply Mem.atCode | apply Mem.atList
  case h => repeat' (first | (with_reducible exact O) | (with_reducible apply Mem.drew) | (with_reducible apply Mem.drewN) | (with_reducible apply Mem.ext) | (with_reducible apply Mem.alloc) | (with_reducible apply Mem.setCell) | (simp only [ptb, ptb_upd, foots_cons, List.mem_cons, World.size_alloc, size_ext, World.size_setCell, true_or, or_true, eq_self_iff_true, ptb_listA, ptb_fam, ptb_propA, ptb_learnA, ptb_tabA]))
  case' k =>
    intro w7 O'
    (try clear O)
    have O := O'
    clear O'
    (first | simp only [sel, rst, List.cons_append, List.nil_append, World.size_alloc, size_ext, World.size_setCell, size_setMap, World.size_drew, size_drewN, upd, List.set_cons_zero, List.set_cons_succ, if_true, if_false, reduceIte, not_false_eq_true, ne_lt0, ne_lt1, ne_lt2, ne_lt3, ne_lt4, cs] at O | simp only [sel, rst, List.cons_append, List.nil_append, World.size_alloc, size_ext, World.size_setCell, size_setMap, World.size_drew, size_drewN, upd, List.set_cons_zero, List.set_cons_succ, if_true, if_false, reduceIte, not_false_eq_true, ne_lt0, ne_lt1, ne_lt2, ne_lt3, ne_lt4] at O | skip)
    (try clear cs)
    (try clear v1)
    (try clear v2)
    (try clear v3)
  have O2 := O.front [false, false, false, false, false, false, false, true]
  simp only [sel, rst, List.cons_append, List.nil_append] at O2
  have O3 := O2.famTake HP.out
  clear O O2
  have O := O3
  clear O3
  change Mem _ _ _ (propA pb mo p :: _) at O
  skip
  apply region_held_mem [false, false, false, true, true, false, true] (by kernel_rfl)
  case O => repeat' (first | (with_reducible exact O) | (with_reducible apply Mem.drew) | (with_reducible apply Mem.drewN) | (with_reducible apply Mem.ext) | (with_reducible apply Mem.alloc) | (with_reducible apply Mem.setCell) | (simp only [ptb, ptb_upd, foots_cons, List.mem_cons, World.size_alloc, size_ext, World.size_setCell, true_or, or_true, eq_self_iff_true, ptb_listA, ptb_fam, ptb_propA, ptb_learnA, ptb_tabA]))
  case' h =>
    intro wr1 O'
    (try clear O)
    have O := O'
    clear O'
    (first | simp only [sel, rst, List.cons_append, List.nil_append, World.size_alloc, size_ext, World.size_setCell, size_setMap, World.size_drew, size_drewN, upd, List.set_cons_zero, List.set_cons_succ, if_true, if_false, reduceIte, not_false_eq_true, ne_lt0, ne_lt1, ne_lt2, ne_lt3, ne_lt4, cs] at O | simp only [sel, rst, List.cons_append, List.nil_append, World.size_alloc, size_ext, World.size_setCell, size_setMap, World.size_drew, size_drewN, upd, List.set_cons_zero, List.set_cons_succ, if_true, if_false, reduceIte, not_false_eq_true, ne_lt0, ne_lt1, ne_lt2, ne_lt3, ne_lt4] at O | skip)
    (try clear cs)
    (try clear v1)
    (try clear v2)
    (try clear v3)
  refine takeH (i := 0) (v := ?v1_1) rfl (by kernel_rfl) (by kernel_rfl) (by kernel_rfl) (fun _ _ _ h => h) (by rfl) ?y1_1 (O.sel [false, false, false, true, true, false, true]) ?r1_1
  case y1_1 =>
    intro WW hSw
    (go_simp) <;> (with_reducible rfl)
  case' r1_1 =>
    try simp only [Act.put, List.setIfInBounds_toArray, List.set_cons_zero, List.set_cons_succ]
  refine takeH (i := 1) (v := ?v1_2) rfl (by kernel_rfl) (by kernel_rfl) (by kernel_rfl) (fun _ _ _ h => h) (by rfl) ?y1_2 (O.sel [false, false, false, true, true, false, true]) ?r1_2
  case y1_2 =>
    intro WW hSw
    (go_simp) <;> (with_reducible rfl)
  case' r1_2 =>
    try simp only [Act.put, List.setIfInBounds_toArray, List.set_cons_zero, List.set_cons_succ]
  refine takeH (i := 2) (v := ?v1_3) rfl (by kernel_rfl) (by kernel_rfl) (by kernel_rfl) (fun _ _ _ h => h) (by rfl) ?y1_3 (O.sel [false, false, false, true, true, false, true]) ?r1_3
  case y1_3 =>
    intro WW hSw
    (go_simp) <;> (with_reducible rfl)
  case' r1_3 =>
    try simp only [Act.put, List.setIfInBounds_toArray, List.set_cons_zero, List.set_cons_succ]
  refine takeH (i := 3) (v := ?v1_4) rfl (by kernel_rfl) (by kernel_rfl) (by kernel_rfl) (fun _ _ _ h => h) (by rfl) ?y1_4 (O.sel [false, false, false, true, true, false, true]) ?r1_4
  case y1_4 =>
    intro WW hSw
    replace hSw : Mem _ _ WW _ := hSw
    have cs := hSw.facts
    simp only [sel, factsP, cellsP, roomP, foots_cons, foots_nil, foots_append, foot_pt, ptb, ptb_mapA, foot_mapA, factsP_mapA, foot_bun, List.append_nil, List.nil_append, List.cons_append, List.nodup_cons, List.nodup_nil, List.mem_cons, List.not_mem_nil, List.mem_singleton, List.forall_mem_cons, not_or, not_false_eq_true, and_true, true_and, or_false, false_or, forall_eq_or_imp, forall_eq, implies_true, Nat.zero_add, Nat.reduceAdd, and_assoc, ptb_listA, factsP_listA, ptb_fam, factsP_fam, ptb_propA, factsP_propA, ptb_learnA, factsP_learnA, ptb_tabA, factsP_tabA, Nat.mul_one, sentCells, ptrCells] at cs
    have v1 := (listA_at (cs := ptrCells) (fun _ => rfl) (hSw.hold (listA 24 1 ptrCells (some ⟨g, 0, none⟩) c2 (props.map (·.1))) (by simp [sel])) HPB.out)
    try simp only [cellsQ, roomP, and_assoc, and_true, true_and, Nat.add_zero, Nat.zero_add, Nat.reduceAdd, factsP, cellsP, roomP, foots_cons, foots_nil, foots_append, foot_pt, ptb, ptb_mapA, foot_mapA, factsP_mapA, foot_bun, List.append_nil, List.nil_append, List.cons_append, List.nodup_cons, List.nodup_nil, List.mem_cons, List.not_mem_nil, List.mem_singleton, List.forall_mem_cons, not_or, not_false_eq_true, and_true, true_and, or_false, false_or, forall_eq_or_imp, forall_eq, implies_true, Nat.zero_add, Nat.reduceAdd, and_assoc, ptb_listA, factsP_listA, ptb_fam, factsP_fam, ptb_propA, factsP_propA, ptb_learnA, factsP_learnA, ptb_tabA, factsP_tabA, Nat.mul_one, sentCells, ptrCells] at v1
    (go_simp) <;> (with_reducible rfl)
  case' r1_4 =>
    try simp only [Act.put, List.setIfInBounds_toArray, List.set_cons_zero, List.set_cons_succ]
  refine takeH (i := 4) (v := ?v1_5) rfl (by kernel_rfl) (by kernel_rfl) (by kernel_rfl) (fun _ _ _ h => h) (by rfl) ?y1_5 (O.sel [false, false, false, true, true, false, true]) ?r1_5
  case y1_5 =>
    intro WW hSw
    (go_simp) <;> (with_reducible rfl)
  case' r1_5 =>
    try simp only [Act.put, List.setIfInBounds_toArray, List.set_cons_zero, List.set_cons_succ]
  refine takeH (i := 5) (v := ?v1_6) rfl (by kernel_rfl) (by kernel_rfl) (by kernel_rfl) (fun _ _ _ h => h) (by rfl) ?y1_6 (O.sel [false, false, false, true, true, false, true]) ?r1_6
  case y1_6 =>
    intro WW hSw
    replace hSw : Mem _ _ WW _ := hSw
    have cs := hSw.facts
    simp only [sel, factsP, cellsP, roomP, foots_cons, foots_nil, foots_append, foot_pt, ptb, ptb_mapA, foot_mapA, factsP_mapA, foot_bun, List.append_nil, List.nil_append, List.cons_append, List.nodup_cons, List.nodup_nil, List.mem_cons, List.not_mem_nil, List.mem_singleton, List.forall_mem_cons, not_or, not_false_eq_true, and_true, true_and, or_false, false_or, forall_eq_or_imp, forall_eq, implies_true, Nat.zero_add, Nat.reduceAdd, and_assoc, ptb_listA, factsP_listA, ptb_fam, factsP_fam, ptb_propA, factsP_propA, ptb_learnA, factsP_learnA, ptb_tabA, factsP_tabA, Nat.mul_one, sentCells, ptrCells] at cs
    have v1 := (listA_at (cs := ptrCells) (fun _ => rfl) (hSw.hold (listA 24 1 ptrCells (some ⟨g, 0, none⟩) c2 (props.map (·.1))) (by simp [sel])) HPB.out)
    try simp only [cellsQ, roomP, and_assoc, and_true, true_and, Nat.add_zero, Nat.zero_add, Nat.reduceAdd, factsP, cellsP, roomP, foots_cons, foots_nil, foots_append, foot_pt, ptb, ptb_mapA, foot_mapA, factsP_mapA, foot_bun, List.append_nil, List.nil_append, List.cons_append, List.nodup_cons, List.nodup_nil, List.mem_cons, List.not_mem_nil, List.mem_singleton, List.forall_mem_cons, not_or, not_false_eq_true, and_true, true_and, or_false, false_or, forall_eq_or_imp, forall_eq, implies_true, Nat.zero_add, Nat.reduceAdd, and_assoc, ptb_listA, factsP_listA, ptb_fam, factsP_fam, ptb_propA, factsP_propA, ptb_learnA, factsP_learnA, ptb_tabA, factsP_tabA, Nat.mul_one, sentCells, ptrCells] at v1
    (go_simp) <;> (with_reducible rfl)
  case' r1_6 =>
    try simp only [Act.put, List.setIfInBounds_toArray, List.set_cons_zero, List.set_cons_succ]
  refine takeH (i := 6) (v := ?v1_7) rfl (by kernel_rfl) (by kernel_rfl) (by kernel_rfl) (fun _ _ _ h => h) (by rfl) ?y1_7 (O.sel [false, false, false, true, true, false, true]) ?r1_7
  case y1_7 =>
    intro WW hSw
    replace hSw : Mem _ _ WW _ := hSw
    have cs := hSw.facts
    simp only [sel, factsP, cellsP, roomP, foots_cons, foots_nil, foots_append, foot_pt, ptb, ptb_mapA, foot_mapA, factsP_mapA, foot_bun, List.append_nil, List.nil_append, List.cons_append, List.nodup_cons, List.nodup_nil, List.mem_cons, List.not_mem_nil, List.mem_singleton, List.forall_mem_cons, not_or, not_false_eq_true, and_true, true_and, or_false, false_or, forall_eq_or_imp, forall_eq, implies_true, Nat.zero_add, Nat.reduceAdd, and_assoc, ptb_listA, factsP_listA, ptb_fam, factsP_fam, ptb_propA, factsP_propA, ptb_learnA, factsP_learnA, ptb_tabA, factsP_tabA, Nat.mul_one, sentCells, ptrCells] at cs
    have v1 := (listA_at (cs := ptrCells) (fun _ => rfl) (hSw.hold (listA 24 1 ptrCells (some ⟨g, 0, none⟩) c2 (props.map (·.1))) (by simp [sel])) HPB.out)
    try simp only [cellsQ, roomP, and_assoc, and_true, true_and, Nat.add_zero, Nat.zero_add, Nat.reduceAdd, factsP, cellsP, roomP, foots_cons, foots_nil, foots_append, foot_pt, ptb, ptb_mapA, foot_mapA, factsP_mapA, foot_bun, List.append_nil, List.nil_append, List.cons_append, List.nodup_cons, List.nodup_nil, List.mem_cons, List.not_mem_nil, List.mem_singleton, List.forall_mem_cons, not_or, not_false_eq_true, and_true, true_and, or_false, false_or, forall_eq_or_imp, forall_eq, implies_true, Nat.zero_add, Nat.reduceAdd, and_assoc, ptb_listA, factsP_listA, ptb_fam, factsP_fam, ptb_propA, factsP_propA, ptb_learnA, factsP_learnA, ptb_tabA, factsP_tabA, Nat.mul_one, sentCells, ptrCells] at v1
    (go_simp) <;> (with_reducible rfl)
  case' r1_7 =>
    try simp only [Act.put, List.setIfInBounds_toArray, List.set_cons_zero, List.set_cons_succ]
  refine takeH (i := 7) (v := ?v1_8) rfl (by kernel_rfl) (by kernel_rfl) (by kernel_rfl) (fun _ _ _ h => h) (by rfl) ?y1_8 (O.sel [false, false, false, true, true, false, true]) ?r1_8
  case y1_8 =>
    intro WW hSw
    (go_simp) <;> (with_reducible rfl)
  case' r1_8 =>
    try simp only [Act.put, List.setIfInBounds_toArray, List.set_cons_zero, List.set_cons_succ]
  refine takeH (i := 8) (v := ?v1_9) rfl (by kernel_rfl) (by kernel_rfl) (by kernel_rfl) (fun _ _ _ h => h) (by rfl) ?y1_9 (O.sel [false, false, false, true, true, false, true]) ?r1_9
  case y1_9 =>
    intro WW hSw
    (go_simp) <;> (with_reducible rfl)
  case' r1_9 =>
    try simp only [Act.put, List.setIfInBounds_toArray, List.set_cons_zero, List.set_cons_succ]
  refine takeH (i := 9) (v := ?v1_10) rfl (by kernel_rfl) (by kernel_rfl) (by kernel_rfl) (fun _ _ _ h => h) (by rfl) ?y1_10 (O.sel [false, false, false, true, true, false, true]) ?r1_10
  case y1_10 =>
    intro WW hSw
    (go_simp) <;> (with_reducible rfl)
  case' r1_10 =>
    try simp only [Act.put, List.setIfInBounds_toArray, List.set_cons_zero, List.set_cons_succ]
  refine takeH (i := 10) (v := ?v1_11) rfl (by kernel_rfl) (by kernel_rfl) (by kernel_rfl) (fun _ _ _ h => h) (by rfl) ?y1_11 (O.sel [false, false, false, true, true, false, true]) ?r1_11
  case y1_11 =>
    intro WW hSw
    replace hSw : Mem _ _ WW _ := hSw
    have cs := hSw.facts
    simp only [sel, factsP, cellsP, roomP, foots_cons, foots_nil, foots_append, foot_pt, ptb, ptb_mapA, foot_mapA, factsP_mapA, foot_bun, List.append_nil, List.nil_append, List.cons_append, List.nodup_cons, List.nodup_nil, List.mem_cons, List.not_mem_nil, List.mem_singleton, List.forall_mem_cons, not_or, not_false_eq_true, and_true, true_and, or_false, false_or, forall_eq_or_imp, forall_eq, implies_true, Nat.zero_add, Nat.reduceAdd, and_assoc, ptb_listA, factsP_listA, ptb_fam, factsP_fam, ptb_propA, factsP_propA, ptb_learnA, factsP_learnA, ptb_tabA, factsP_tabA, Nat.mul_one, sentCells, ptrCells] at cs
    have v1 := (listA_at (cs := ptrCells) (fun _ => rfl) (hSw.hold (listA 24 1 ptrCells (some ⟨g, 0, none⟩) c2 (props.map (·.1))) (by simp [sel])) HPB.out)
    try simp only [cellsQ, roomP, and_assoc, and_true, true_and, Nat.add_zero, Nat.zero_add, Nat.reduceAdd, factsP, cellsP, roomP, foots_cons, foots_nil, foots_append, foot_pt, ptb, ptb_mapA, foot_mapA, factsP_mapA, foot_bun, List.append_nil, List.nil_append, List.cons_append, List.nodup_cons, List.nodup_nil, List.mem_cons, List.not_mem_nil, List.mem_singleton, List.forall_mem_cons, not_or, not_false_eq_true, and_true, true_and, or_false, false_or, forall_eq_or_imp, forall_eq, implies_true, Nat.zero_add, Nat.reduceAdd, and_assoc, ptb_listA, factsP_listA, ptb_fam, factsP_fam, ptb_propA, factsP_propA, ptb_learnA, factsP_learnA, ptb_tabA, factsP_tabA, Nat.mul_one, sentCells, ptrCells] at v1
    (go_simp) <;> (with_reducible rfl)
  case' r1_11 =>
    try simp only [Act.put, List.setIfInBounds_toArray, List.set_cons_zero, List.set_cons_succ]
  refine takeH (i := 11) (v := ?v1_12) rfl (by kernel_rfl) (by kernel_rfl) (by kernel_rfl) (fun _ _ _ h => h) (by rfl) ?y1_12 (O.sel [false, false, false, true, true, false, true]) ?r1_12
  case y1_12 =>
    intro WW hSw
    (go_simp) <;> (with_reducible rfl)
  case' r1_12 =>
    try simp only [Act.put, List.setIfInBounds_toArray, List.set_cons_zero, List.set_cons_succ]
  refine takeH (i := 12) (v := ?v1_13) rfl (by kernel_rfl) (by kernel_rfl) (by kernel_rfl) (fun _ _ _ h => h) (by rfl) ?y1_13 (O.sel [false, false, false, true, true, false, true]) ?r1_13
  case y1_13 =>
    intro WW hSw
    replace hSw : Mem _ _ WW _ := hSw
    have cs := hSw.facts
    simp only [sel, factsP, cellsP, roomP, foots_cons, foots_nil, foots_append, foot_pt, ptb, ptb_mapA, foot_mapA, factsP_mapA, foot_bun, List.append_nil, List.nil_append, List.cons_append, List.nodup_cons, List.nodup_nil, List.mem_cons, List.not_mem_nil, List.mem_singleton, List.forall_mem_cons, not_or, not_false_eq_true, and_true, true_and, or_false, false_or, forall_eq_or_imp, forall_eq, implies_true, Nat.zero_add, Nat.reduceAdd, and_assoc, ptb_listA, factsP_listA, ptb_fam, factsP_fam, ptb_propA, factsP_propA, ptb_learnA, factsP_learnA, ptb_tabA, factsP_tabA, Nat.mul_one, sentCells, ptrCells] at cs
    have v1 := (listA_at (cs := ptrCells) (fun _ => rfl) (hSw.hold (listA 24 1 ptrCells (some ⟨g, 0, none⟩) c2 (props.map (·.1))) (by simp [sel])) HPB.out)
    try simp only [cellsQ, roomP, and_assoc, and_true, true_and, Nat.add_zero, Nat.zero_add, Nat.reduceAdd, factsP, cellsP, roomP, foots_cons, foots_nil, foots_append, foot_pt, ptb, ptb_mapA, foot_mapA, factsP_mapA, foot_bun, List.append_nil, List.nil_append, List.cons_append, List.nodup_cons, List.nodup_nil, List.mem_cons, List.not_mem_nil, List.mem_singleton, List.forall_mem_cons, not_or, not_false_eq_true, and_true, true_and, or_false, false_or, forall_eq_or_imp, forall_eq, implies_true, Nat.zero_add, Nat.reduceAdd, and_assoc, ptb_listA, factsP_listA, ptb_fam, factsP_fam, ptb_propA, factsP_propA, ptb_learnA, factsP_learnA, ptb_tabA, factsP_tabA, Nat.mul_one, sentCells, ptrCells] at v1
    (go_simp) <;> (with_reducible rfl)
  case' r1_13 =>
    try simp only [Act.put, List.setIfInBounds_toArray, List.set_cons_zero, List.set_cons_succ]
  apply cutX1
  case main =>
    intro hT1_0
    refine wpAnyH_ready (rs := [13, 17]) (by kernel_rfl) (by simp) ?_
    refine consH rfl (fun K hK => ?_) ?_
    · have cs := O.facts
      simp only [factsP, cellsP, roomP, foots_cons, foots_nil, foots_append, foot_pt, ptb, ptb_mapA, foot_mapA, factsP_mapA, foot_bun, List.append_nil, List.nil_append, List.cons_append, List.nodup_cons, List.nodup_nil, List.mem_cons, List.not_mem_nil, List.mem_singleton, List.forall_mem_cons, not_or, not_false_eq_true, and_true, true_and, or_false, false_or, forall_eq_or_imp, forall_eq, implies_true, Nat.zero_add, Nat.reduceAdd, and_assoc, ptb_listA, factsP_listA, ptb_fam, factsP_fam, ptb_propA, factsP_propA, ptb_learnA, factsP_learnA, ptb_tabA, factsP_tabA, Nat.mul_one, sentCells, ptrCells] at cs
      have v1 := (listA_at (cs := ptrCells) (fun _ => rfl) (O.hold (listA 24 1 ptrCells (some ⟨g, 0, none⟩) c2 (props.map (·.1))) (by simp [sel])) HPB.out)
      try simp only [cellsQ, roomP, and_assoc, and_true, true_and, Nat.add_zero, Nat.zero_add, Nat.reduceAdd, factsP, cellsP, roomP, foots_cons, foots_nil, foots_append, foot_pt, ptb, ptb_mapA, foot_mapA, factsP_mapA, foot_bun, List.append_nil, List.nil_append, List.cons_append, List.nodup_cons, List.nodup_nil, List.mem_cons, List.not_mem_nil, List.mem_singleton, List.forall_mem_cons, not_or, not_false_eq_true, and_true, true_and, or_false, false_or, forall_eq_or_imp, forall_eq, implies_true, Nat.zero_add, Nat.reduceAdd, and_assoc, ptb_listA, factsP_listA, ptb_fam, factsP_fam, ptb_propA, factsP_propA, ptb_learnA, factsP_learnA, ptb_tabA, factsP_tabA, Nat.mul_one, sentCells, ptrCells] at v1
      go_simp
      apply Mem.atCall
      case h => repeat' (first | (with_reducible exact O) | (with_reducible apply Mem.drew) | (with_reducible apply Mem.drewN) | (with_reducible apply Mem.ext) | (with_reducible apply Mem.alloc) | (with_reducible apply Mem.setCell) | (simp only [ptb, ptb_upd, foots_cons, List.mem_cons, World.size_alloc, size_ext, World.size_setCell, true_or, or_true, eq_self_iff_true, ptb_listA, ptb_fam, ptb_propA, ptb_learnA, ptb_tabA]))
      intro w1_14 O'
      (try clear O)
      have O := O'
      clear O'
      (first | simp only [sel, rst, List.cons_append, List.nil_append, World.size_alloc, size_ext, World.size_setCell, size_setMap, World.size_drew, size_drewN, upd, List.set_cons_zero, List.set_cons_succ, if_true, if_false, reduceIte, not_false_eq_true, ne_lt0, ne_lt1, ne_lt2, ne_lt3, ne_lt4, cs] at O | simp only [sel, rst, List.cons_append, List.nil_append, World.size_alloc, size_ext, World.size_setCell, size_setMap, World.size_drew, size_drewN, upd, List.set_cons_zero, List.set_cons_succ, if_true, if_false, reduceIte, not_false_eq_true, ne_lt0, ne_lt1, ne_lt2, ne_lt3, ne_lt4] at O | skip)
      (try clear cs)
      (try clear v1)
      (try clear v2)
      (try clear v3)
      refine (BG.out _ (O.pre [true])).mono ?_
      rintro e w1_14' ⟨rfl, mo', o⟩
      replace O := O.callp [true] o
      clear o
      simp only [put, List.cons_append, List.nil_append] at O
      go_wp2_with fail
      refine hK.out _ _ (O.sel [false, false, false, true, true, false, true]) (fun _ => ?_)
      clear hK K
      refine takeH (i := 14) (v := ?v1_15) rfl (by kernel_rfl) (by kernel_rfl) (by kernel_rfl) (fun _ _ _ h => h) (by rfl) ?y1_15 (O.sel [false, false, false, true, true, false, true]) ?r1_15
      case y1_15 =>
        intro WW hSw
        (go_simp) <;> (with_reducible rfl)
      case' r1_15 =>
        try simp only [Act.put, List.setIfInBounds_toArray, List.set_cons_zero, List.set_cons_succ]
      refine takeH (i := 15) (v := ?v1_16) rfl (by kernel_rfl) (by kernel_rfl) (by kernel_rfl) (fun _ _ _ h => h) (by rfl) ?y1_16 (O.sel [false, false, false, true, true, false, true]) ?r1_16
      case y1_16 =>
        intro WW hSw
        (go_simp) <;> (with_reducible rfl)
      case' r1_16 =>
        try simp only [Act.put, List.setIfInBounds_toArray, List.set_cons_zero, List.set_cons_succ]
      refine takeH (i := 16) (v := ?v1_17) rfl (by kernel_rfl) (by kernel_rfl) (by kernel_rfl) (fun _ _ _ h => h) (by rfl) ?y1_17 (O.sel [false, false, false, true, true, false, true]) ?r1_17
      case y1_17 =>
        intro WW hSw
        (go_simp) <;> (with_reducible rfl)
      case' r1_17 =>
        try simp only [Act.put, List.setIfInBounds_toArray, List.set_cons_zero, List.set_cons_succ]
      refine wpAnyH_ready (rs := [17]) (by kernel_rfl) (by simp) ?_
      refine consH rfl (fun K hK => ?_) AllReadyH.nil
      have cs := O.facts
      simp only [factsP, cellsP, roomP, foots_cons, foots_nil, foots_append, foot_pt, ptb, ptb_mapA, foot_mapA, factsP_mapA, foot_bun, List.append_nil, List.nil_append, List.cons_append, List.nodup_cons, List.nodup_nil, List.mem_cons, List.not_mem_nil, List.mem_singleton, List.forall_mem_cons, not_or, not_false_eq_true, and_true, true_and, or_false, false_or, forall_eq_or_imp, forall_eq, implies_true, Nat.zero_add, Nat.reduceAdd, and_assoc, ptb_listA, factsP_listA, ptb_fam, factsP_fam, ptb_propA, factsP_propA, ptb_learnA, factsP_learnA, ptb_tabA, factsP_tabA, Nat.mul_one, sentCells, ptrCells] at cs
      have v1 := (listA_at (cs := ptrCells) (fun _ => rfl) (O.hold (listA 24 1 ptrCells (some ⟨g, 0, none⟩) c2 (props.map (·.1))) (by simp [sel])) HPB.out)
      try simp only [cellsQ, roomP, and_assoc, and_true, true_and, Nat.add_zero, Nat.zero_add, Nat.reduceAdd, factsP, cellsP, roomP, foots_cons, foots_nil, foots_append, foot_pt, ptb, ptb_mapA, foot_mapA, factsP_mapA, foot_bun, List.append_nil, List.nil_append, List.cons_append, List.nodup_cons, List.nodup_nil, List.mem_cons, List.not_mem_nil, List.mem_singleton, List.forall_mem_cons, not_or, not_false_eq_true, and_true, true_and, or_false, false_or, forall_eq_or_imp, forall_eq, implies_true, Nat.zero_add, Nat.reduceAdd, and_assoc, ptb_listA, factsP_listA, ptb_fam, factsP_fam, ptb_propA, factsP_propA, ptb_learnA, factsP_learnA, ptb_tabA, factsP_tabA, Nat.mul_one, sentCells, ptrCells] at v1
      go_simp
      apply Mem.atK
      case h => repeat' (first | (with_reducible exact O) | (with_reducible apply Mem.drew) | (with_reducible apply Mem.drewN) | (with_reducible apply Mem.ext) | (with_reducible apply Mem.alloc) | (with_reducible apply Mem.setCell) | (simp only [ptb, ptb_upd, foots_cons, List.mem_cons, World.size_alloc, size_ext, World.size_setCell, true_or, or_true, eq_self_iff_true, ptb_listA, ptb_fam, ptb_propA, ptb_learnA, ptb_tabA]))
      intro w1_18 O'
      (try clear O)
      have O := O'
      clear O'
      (first | simp only [sel, rst, List.cons_append, List.nil_append, World.size_alloc, size_ext, World.size_setCell, size_setMap, World.size_drew, size_drewN, upd, List.set_cons_zero, List.set_cons_succ, if_true, if_false, reduceIte, not_false_eq_true, ne_lt0, ne_lt1, ne_lt2, ne_lt3, ne_lt4, cs] at O | simp only [sel, rst, List.cons_append, List.nil_append, World.size_alloc, size_ext, World.size_setCell, size_setMap, World.size_drew, size_drewN, upd, List.set_cons_zero, List.set_cons_succ, if_true, if_false, reduceIte, not_false_eq_true, ne_lt0, ne_lt1, ne_lt2, ne_lt3, ne_lt4] at O | skip)
      (try clear cs)
      (try clear v1)
      (try clear v2)
      (try clear v3)
      generalize w1_14'.heap.size = p1_19 at O ⊢
      refine hK.out _ _ (O.sel [false, false, false, false, true, true, false, true]) (fun _ => ?_)
      clear hK K
      revert O
      exact hT1_0.out mo' p1_19 w1_18
    refine consH rfl (fun K hK => ?_) ?_
    · have cs := O.facts
      simp only [factsP, cellsP, roomP, foots_cons, foots_nil, foots_append, foot_pt, ptb, ptb_mapA, foot_mapA, factsP_mapA, foot_bun, List.append_nil, List.nil_append, List.cons_append, List.nodup_cons, List.nodup_nil, List.mem_cons, List.not_mem_nil, List.mem_singleton, List.forall_mem_cons, not_or, not_false_eq_true, and_true, true_and, or_false, false_or, forall_eq_or_imp, forall_eq, implies_true, Nat.zero_add, Nat.reduceAdd, and_assoc, ptb_listA, factsP_listA, ptb_fam, factsP_fam, ptb_propA, factsP_propA, ptb_learnA, factsP_learnA, ptb_tabA, factsP_tabA, Nat.mul_one, sentCells, ptrCells] at cs
      have v1 := (listA_at (cs := ptrCells) (fun _ => rfl) (O.hold (listA 24 1 ptrCells (some ⟨g, 0, none⟩) c2 (props.map (·.1))) (by simp [sel])) HPB.out)
      try simp only [cellsQ, roomP, and_assoc, and_true, true_and, Nat.add_zero, Nat.zero_add, Nat.reduceAdd, factsP, cellsP, roomP, foots_cons, foots_nil, foots_append, foot_pt, ptb, ptb_mapA, foot_mapA, factsP_mapA, foot_bun, List.append_nil, List.nil_append, List.cons_append, List.nodup_cons, List.nodup_nil, List.mem_cons, List.not_mem_nil, List.mem_singleton, List.forall_mem_cons, not_or, not_false_eq_true, and_true, true_and, or_false, false_or, forall_eq_or_imp, forall_eq, implies_true, Nat.zero_add, Nat.reduceAdd, and_assoc, ptb_listA, factsP_listA, ptb_fam, factsP_fam, ptb_propA, factsP_propA, ptb_learnA, factsP_learnA, ptb_tabA, factsP_tabA, Nat.mul_one, sentCells, ptrCells] at v1
      go_simp
      apply Mem.atK
      case h => repeat' (first | (with_reducible exact O) | (with_reducible apply Mem.drew) | (with_reducible apply Mem.drewN) | (with_reducible apply Mem.ext) | (with_reducible apply Mem.alloc) | (with_reducible apply Mem.setCell) | (simp only [ptb, ptb_upd, foots_cons, List.mem_cons, World.size_alloc, size_ext, World.size_setCell, true_or, or_true, eq_self_iff_true, ptb_listA, ptb_fam, ptb_propA, ptb_learnA, ptb_tabA]))
      intro w1_20 O'
      (try clear O)
      have O := O'
      clear O'
      (first | simp only [sel, rst, List.cons_append, List.nil_append, World.size_alloc, size_ext, World.size_setCell, size_setMap, World.size_drew, size_drewN, upd, List.set_cons_zero, List.set_cons_succ, if_true, if_false, reduceIte, not_false_eq_true, ne_lt0, ne_lt1, ne_lt2, ne_lt3, ne_lt4, cs] at O | simp only [sel, rst, List.cons_append, List.nil_append, World.size_alloc, size_ext, World.size_setCell, size_setMap, World.size_drew, size_drewN, upd, List.set_cons_zero, List.set_cons_succ, if_true, if_false, reduceIte, not_false_eq_true, ne_lt0, ne_lt1, ne_lt2, ne_lt3, ne_lt4] at O | skip)
      (try clear cs)
      (try clear v1)
      (try clear v2)
      (try clear v3)
      generalize wr1.heap.size = p1_21 at O ⊢
      refine hK.out _ _ (O.sel [false, false, false, false, true, true, false, true]) (fun _ => ?_)
      clear hK K
      refine wpAnyH_ready (rs := [13]) (by kernel_rfl) (by simp) ?_
      refine consH rfl (fun K hK => ?_) AllReadyH.nil
      have cs := O.facts
      simp only [factsP, cellsP, roomP, foots_cons, foots_nil, foots_append, foot_pt, ptb, ptb_mapA, foot_mapA, factsP_mapA, foot_bun, List.append_nil, List.nil_append, List.cons_append, List.nodup_cons, List.nodup_nil, List.mem_cons, List.not_mem_nil, List.mem_singleton, List.forall_mem_cons, not_or, not_false_eq_true, and_true, true_and, or_false, false_or, forall_eq_or_imp, forall_eq, implies_true, Nat.zero_add, Nat.reduceAdd, and_assoc, ptb_listA, factsP_listA, ptb_fam, factsP_fam, ptb_propA, factsP_propA, ptb_learnA, factsP_learnA, ptb_tabA, factsP_tabA, Nat.mul_one, sentCells, ptrCells] at cs
      have v1 := (listA_at (cs := ptrCells) (fun _ => rfl) (O.hold (listA 24 1 ptrCells (some ⟨g, 0, none⟩) c2 (props.map (·.1))) (by simp [sel])) HPB.out)
      try simp only [cellsQ, roomP, and_assoc, and_true, true_and, Nat.add_zero, Nat.zero_add, Nat.reduceAdd, factsP, cellsP, roomP, foots_cons, foots_nil, foots_append, foot_pt, ptb, ptb_mapA, foot_mapA, factsP_mapA, foot_bun, List.append_nil, List.nil_append, List.cons_append, List.nodup_cons, List.nodup_nil, List.mem_cons, List.not_mem_nil, List.mem_singleton, List.forall_mem_cons, not_or, not_false_eq_true, and_true, true_and, or_false, false_or, forall_eq_or_imp, forall_eq, implies_true, Nat.zero_add, Nat.reduceAdd, and_assoc, ptb_listA, factsP_listA, ptb_fam, factsP_fam, ptb_propA, factsP_propA, ptb_learnA, factsP_learnA, ptb_tabA, factsP_tabA, Nat.mul_one, sentCells, ptrCells] at v1
      go_simp
      apply Mem.atCall
      case h => repeat' (first | (with_reducible exact O) | (with_reducible apply Mem.drew) | (with_reducible apply Mem.drewN) | (with_reducible apply Mem.ext) | (with_reducible apply Mem.alloc) | (with_reducible apply Mem.setCell) | (simp only [ptb, ptb_upd, foots_cons, List.mem_cons, World.size_alloc, size_ext, World.size_setCell, true_or, or_true, eq_self_iff_true, ptb_listA, ptb_fam, ptb_propA, ptb_learnA, ptb_tabA]))
      intro w1_22 O'
      (try clear O)
      have O := O'
      clear O'
      (first | simp only [sel, rst, List.cons_append, List.nil_append, World.size_alloc, size_ext, World.size_setCell, size_setMap, World.size_drew, size_drewN, upd, List.set_cons_zero, List.set_cons_succ, if_true, if_false, reduceIte, not_false_eq_true, ne_lt0, ne_lt1, ne_lt2, ne_lt3, ne_lt4, cs] at O | simp only [sel, rst, List.cons_append, List.nil_append, World.size_alloc, size_ext, World.size_setCell, size_setMap, World.size_drew, size_drewN, upd, List.set_cons_zero, List.set_cons_succ, if_true, if_false, reduceIte, not_false_eq_true, ne_lt0, ne_lt1, ne_lt2, ne_lt3, ne_lt4] at O | skip)
      (try clear cs)
      (try clear v1)
      (try clear v2)
      (try clear v3)
      refine (BG.out _ (O.pre [false, true])).mono ?_
      rintro e w1_22' ⟨rfl, mo', o⟩
      replace O := O.callp [false, true] o
      clear o
      simp only [put, List.cons_append, List.nil_append] at O
      go_wp2_with fail
      refine hK.out _ _ (O.sel [false, false, false, false, true, true, false, true]) (fun _ => ?_)
      clear hK K
      refine takeH (i := 14) (v := ?v1_23) rfl (by kernel_rfl) (by kernel_rfl) (by kernel_rfl) (fun _ _ _ h => h) (by rfl) ?y1_23 (O.sel [false, false, false, false, true, true, false, true]) ?r1_23
      case y1_23 =>
        intro WW hSw
        (go_simp) <;> (with_reducible rfl)
      case' r1_23 =>
        try simp only [Act.put, List.setIfInBounds_toArray, List.set_cons_zero, List.set_cons_succ]
      refine takeH (i := 15) (v := ?v1_24) rfl (by kernel_rfl) (by kernel_rfl) (by kernel_rfl) (fun _ _ _ h => h) (by rfl) ?y1_24 (O.sel [false, false, false, false, true, true, false, true]) ?r1_24
      case y1_24 =>
        intro WW hSw
        (go_simp) <;> (with_reducible rfl)
      case' r1_24 =>
        try simp only [Act.put, List.setIfInBounds_toArray, List.set_cons_zero, List.set_cons_succ]
      refine takeH (i := 16) (v := ?v1_25) rfl (by kernel_rfl) (by kernel_rfl) (by kernel_rfl) (fun _ _ _ h => h) (by rfl) ?y1_25 (O.sel [false, false, false, false, true, true, false, true]) ?r1_25
      case y1_25 =>
        intro WW hSw
        (go_simp) <;> (with_reducible rfl)
      case' r1_25 =>
        try simp only [Act.put, List.setIfInBounds_toArray, List.set_cons_zero, List.set_cons_succ]
      revert O
      exact hT1_0.out mo' p1_21 w1_22'
    exact AllReadyH.nil
  case' tail =>
    intro mo' q1_26 w1_27 O
  refine wpAnyH_ready (rs := [18]) (by kernel_rfl) (by simp) ?_
  refine consH rfl (fun K hK => ?_) AllReadyH.nil
  have cs := O.facts
  simp only [factsP, cellsP, roomP, foots_cons, foots_nil, foots_append, foot_pt, ptb, ptb_mapA, foot_mapA, factsP_mapA, foot_bun, List.append_nil, List.nil_append, List.cons_append, List.nodup_cons, List.nodup_nil, List.mem_cons, List.not_mem_nil, List.mem_singleton, List.forall_mem_cons, not_or, not_false_eq_true, and_true, true_and, or_false, false_or, forall_eq_or_imp, forall_eq, implies_true, Nat.zero_add, Nat.reduceAdd, and_assoc, ptb_listA, factsP_listA, ptb_fam, factsP_fam, ptb_propA, factsP_propA, ptb_learnA, factsP_learnA, ptb_tabA, factsP_tabA, Nat.mul_one, sentCells, ptrCells] at cs
  have v1 := (listA_at (cs := ptrCells) (fun _ => rfl) (O.hold (listA 24 1 ptrCells (some ⟨g, 0, none⟩) c2 (props.map (·.1))) (by simp [sel])) HPB.out)
  try simp only [cellsQ, roomP, and_assoc, and_true, true_and, Nat.add_zero, Nat.zero_add, Nat.reduceAdd, factsP, cellsP, roomP, foots_cons, foots_nil, foots_append, foot_pt, ptb, ptb_mapA, foot_mapA, factsP_mapA, foot_bun, List.append_nil, List.nil_append, List.cons_append, List.nodup_cons, List.nodup_nil, List.mem_cons, List.not_mem_nil, List.mem_singleton, List.forall_mem_cons, not_or, not_false_eq_true, and_true, true_and, or_false, false_or, forall_eq_or_imp, forall_eq, implies_true, Nat.zero_add, Nat.reduceAdd, and_assoc, ptb_listA, factsP_listA, ptb_fam, factsP_fam, ptb_propA, factsP_propA, ptb_learnA, factsP_learnA, ptb_tabA, factsP_tabA, Nat.mul_one, sentCells, ptrCells] at v1
  go_simp
  apply Mem.atK
  case h => repeat' (first | (with_reducible exact O) | (with_reducible apply Mem.drew) | (with_reducible apply Mem.drewN) | (with_reducible apply Mem.ext) | (with_reducible apply Mem.alloc) | (with_reducible apply Mem.setCell) | (simp only [ptb, ptb_upd, foots_cons, List.mem_cons, World.size_alloc, size_ext, World.size_setCell, true_or, or_true, eq_self_iff_true, ptb_listA, ptb_fam, ptb_propA, ptb_learnA, ptb_tabA]))
  intro w1_28 O'
  (try clear O)
  have O := O'
  clear O'
  (first | simp only [sel, rst, List.cons_append, List.nil_append, World.size_alloc, size_ext, World.size_setCell, size_setMap, World.size_drew, size_drewN, upd, List.set_cons_zero, List.set_cons_succ, if_true, if_false, reduceIte, not_false_eq_true, ne_lt0, ne_lt1, ne_lt2, ne_lt3, ne_lt4, cs] at O | simp only [sel, rst, List.cons_append, List.nil_append, World.size_alloc, size_ext, World.size_setCell, size_setMap, World.size_drew, size_drewN, upd, List.set_cons_zero, List.set_cons_succ, if_true, if_false, reduceIte, not_false_eq_true, ne_lt0, ne_lt1, ne_lt2, ne_lt3, ne_lt4] at O | skip)
  (try clear cs)
  (try clear v1)
  (try clear v2)
  (try clear v3)
  refine hK.out _ _ (O.sel [false, false, false, false, true, true, false, true]) (fun _ => ?_)
  clear hK K
  refine takeH (i := 19) (v := ?v1_29) rfl (by kernel_rfl) (by kernel_rfl) (by kernel_rfl) (fun _ _ _ h => h) (by rfl) ?y1_29 (O.sel [false, false, false, false, true, true, false, true]) ?r1_29
  case y1_29 =>
    intro WW hSw
    (go_simp) <;> (with_reducible rfl)
  case' r1_29 =>
    try simp only [Act.put, List.setIfInBounds_toArray, List.set_cons_zero, List.set_cons_succ]
  refine wpAnyH_done (by kernel_rfl) ?_ _
  clear BG
  have O2 := O.front [false, true, true]
  simp only [sel, rst, List.cons_append, List.nil_append] at O2
  have O3 : Mem w fp _ (propF (pb, mo'.1, ⟨p.node, p.n, ⟨round + 1, p.node⟩, [], noA, ev⟩) :: fam propF (props.eraseIdx k) :: _) := O2
  have O4 := (O3.famPut (by have := H3.out; omega)).sink 8
  clear O O2 O3
  have O := O4
  clear O4
  simp only [List.take_succ_cons, List.take_zero, List.drop_succ_cons, List.drop_zero, List.cons_append, List.nil_append] at O
  skip
  have cs := O.facts
  simp only [factsP, cellsP, roomP, foots_cons, foots_nil, foots_append, foot_pt, ptb, ptb_mapA, foot_mapA, factsP_mapA, foot_bun, List.append_nil, List.nil_append, List.cons_append, List.nodup_cons, List.nodup_nil, List.mem_cons, List.not_mem_nil, List.mem_singleton, List.forall_mem_cons, not_or, not_false_eq_true, and_true, true_and, or_false, false_or, forall_eq_or_imp, forall_eq, implies_true, Nat.zero_add, Nat.reduceAdd, and_assoc, ptb_listA, factsP_listA, ptb_fam, factsP_fam, ptb_propA, factsP_propA, ptb_learnA, factsP_learnA, ptb_tabA, factsP_tabA, Nat.mul_one, sentCells, ptrCells] at cs
  go_wp2_with fail
  go_loopw [10] (fun s wr => ∃ (j : Nat) (B : Option Addr) (d : Nat), j ≤ n ∧ s = .int .i64 j ∧ Mem w fp wr [.pt q1_26 [.int .u32 (round + 1), .int .u8 p.node] 31, .pt sb [.int .i64 0, .int .i64 0, .int .u32 0, .int .u8 0, .string .empty, .bool false, .int .u32 0, .int .u8 0, .string .empty] 101, .pt vb [.int .i64 0, .int .i64 ea, .int .i64 eb, .string ev] 81, .pt xb [.slice A1 n c1, .slice (some ⟨g, 0, none⟩) 3 c2, .slice A3 3 c3, .int .u32 (round + 1), .string vote, .slice none 0 0, .slice none 0 0, .slice B (l2.length + j) d, .slice B3 (l3.length) d3, .slice B4 (l4.length) d4, .slice B5 (l5.length) d5] 74, listA 75 1 ptrCells A1 c1 (tabs.map (·.1)), listA 24 1 ptrCells (some ⟨g, 0, none⟩) c2 (props.map (·.1)), listA 44 1 ptrCells A3 c3 (learns.map (·.1)), fam tabF tabs, fam propF (props.set k (pb, mo'.1, ⟨p.node, p.n, ⟨round + 1, p.node⟩, [], noA, ev⟩)), fam learnF learns, sentA B d (l2 ++ (List.range j).map (fun i => ⟨i, (k : Int), ⟨round + 1, p.node⟩, .empty, noA⟩)), sentA B3 d3 l3, sentA B4 d4 l4, sentA B5 d5 l5]) (fun s _ => n - (intOf s).toNat)
  case atStart => exact ⟨0, B2, d2, by omega, rfl, by simp only [List.range_zero, List.map_nil, List.append_nil, Nat.add_zero]; exact O⟩
  case round =>
    clear O
    obtain ⟨j, B, d, hj, rfl, O⟩ := hrel
    skip
    by_cases hlt : j < n
    · have hlti : (j : Int) < n := by omega
      have cs := O.facts
      simp only [factsP, cellsP, roomP, foots_cons, foots_nil, foots_append, foot_pt, ptb, ptb_mapA, foot_mapA, factsP_mapA, foot_bun, List.append_nil, List.nil_append, List.cons_append, List.nodup_cons, List.nodup_nil, List.mem_cons, List.not_mem_nil, List.mem_singleton, List.forall_mem_cons, not_or, not_false_eq_true, and_true, true_and, or_false, false_or, forall_eq_or_imp, forall_eq, implies_true, Nat.zero_add, Nat.reduceAdd, and_assoc, ptb_listA, factsP_listA, ptb_fam, factsP_fam, ptb_propA, factsP_propA, ptb_learnA, factsP_learnA, ptb_tabA, factsP_tabA, Nat.mul_one, sentCells, ptrCells] at cs
      go_upto_region 15 with fail
      first | apply Mem.atCall | apply Mem.atCode | apply Mem.atList
      case h => repeat' (first | (with_reducible exact O) | (with_reducible apply Mem.drew) | (with_reducible apply Mem.drewN) | (with_reducible apply Mem.ext) | (with_reducible apply Mem.alloc) | (with_reducible apply Mem.setCell) | (simp only [ptb, ptb_upd, foots_cons, List.mem_cons, World.size_alloc, size_ext, World.size_setCell, true_or, or_true, eq_self_iff_true, ptb_listA, ptb_fam, ptb_propA, ptb_learnA, ptb_tabA]))
      case' k =>
        intro wa O'
        (try clear O)
        have O := O'
        clear O'
        (first | simp only [sel, rst, List.cons_append, List.nil_append, World.size_alloc, size_ext, World.size_setCell, size_setMap, World.size_drew, size_drewN, upd, List.set_cons_zero, List.set_cons_succ, if_true, if_false, reduceIte, not_false_eq_true, ne_lt0, ne_lt1, ne_lt2, ne_lt3, ne_lt4, cs] at O | simp only [sel, rst, List.cons_append, List.nil_append, World.size_alloc, size_ext, World.size_setCell, size_setMap, World.size_drew, size_drewN, upd, List.set_cons_zero, List.set_cons_succ, if_true, if_false, reduceIte, not_false_eq_true, ne_lt0, ne_lt1, ne_lt2, ne_lt3, ne_lt4] at O | skip)
        (try clear cs)
        (try clear v1)
        (try clear v2)
        (try clear v3)
      apply region_held_mem [true] (by kernel_rfl)
      case O => repeat' (first | (with_reducible exact O) | (with_reducible apply Mem.drew) | (with_reducible apply Mem.drewN) | (with_reducible apply Mem.ext) | (with_reducible apply Mem.alloc) | (with_reducible apply Mem.setCell) | (simp only [ptb, ptb_upd, foots_cons, List.mem_cons, World.size_alloc, size_ext, World.size_setCell, true_or, or_true, eq_self_iff_true, ptb_listA, ptb_fam, ptb_propA, ptb_learnA, ptb_tabA]))
      case' h =>
        intro wr2 O'
        (try clear O)
        have O := O'
        clear O'
        (first | simp only [sel, rst, List.cons_append, List.nil_append, World.size_alloc, size_ext, World.size_setCell, size_setMap, World.size_drew, size_drewN, upd, List.set_cons_zero, List.set_cons_succ, if_true, if_false, reduceIte, not_false_eq_true, ne_lt0, ne_lt1, ne_lt2, ne_lt3, ne_lt4, cs] at O | simp only [sel, rst, List.cons_append, List.nil_append, World.size_alloc, size_ext, World.size_setCell, size_setMap, World.size_drew, size_drewN, upd, List.set_cons_zero, List.set_cons_succ, if_true, if_false, reduceIte, not_false_eq_true, ne_lt0, ne_lt1, ne_lt2, ne_lt3, ne_lt4] at O | skip)
        (try clear cs)
        (try clear v1)
        (try clear v2)
        (try clear v3)
      refine takeH (i := 0) (v := ?v2_1) rfl (by kernel_rfl) (by kernel_rfl) (by kernel_rfl) (fun _ _ _ h => h) (by rfl) ?y2_1 (O.sel [true]) ?r2_1
      case y2_1 =>
        intro WW hSw
        (go_simp) <;> (with_reducible rfl)
      case' r2_1 =>
        try simp only [Act.put, List.setIfInBounds_toArray, List.set_cons_zero, List.set_cons_succ]
      refine takeH (i := 1) (v := ?v2_2) rfl (by kernel_rfl) (by kernel_rfl) (by kernel_rfl) (fun _ _ _ h => h) (by rfl) ?y2_2 (O.sel [true]) ?r2_2
      case y2_2 =>
        intro WW hSw
        (go_simp) <;> (with_reducible rfl)
      case' r2_2 =>
        try simp only [Act.put, List.setIfInBounds_toArray, List.set_cons_zero, List.set_cons_succ]
      refine takeH (i := 2) (v := ?v2_3) rfl (by kernel_rfl) (by kernel_rfl) (by kernel_rfl) (fun _ _ _ h => h) (by rfl) ?y2_3 (O.sel [true]) ?r2_3
      case y2_3 =>
        intro WW hSw
        (go_simp) <;> (with_reducible rfl)
      case' r2_3 =>
        try simp only [Act.put, List.setIfInBounds_toArray, List.set_cons_zero, List.set_cons_succ]
      refine takeH (i := 3) (v := ?v2_4) rfl (by kernel_rfl) (by kernel_rfl) (by kernel_rfl) (fun _ _ _ h => h) (by rfl) ?y2_4 (O.sel [true]) ?r2_4
      case y2_4 =>
        intro WW hSw
        (go_simp) <;> (with_reducible rfl)
      case' r2_4 =>
        try simp only [Act.put, List.setIfInBounds_toArray, List.set_cons_zero, List.set_cons_succ]
      refine takeH (i := 4) (v := ?v2_5) rfl (by kernel_rfl) (by kernel_rfl) (by kernel_rfl) (fun _ _ _ h => h) (by rfl) ?y2_5 (O.sel [true]) ?r2_5
      case y2_5 =>
        intro WW hSw
        replace hSw : Mem _ _ WW _ := hSw
        have cs := hSw.facts
        simp only [sel, factsP, cellsP, roomP, foots_cons, foots_nil, foots_append, foot_pt, ptb, ptb_mapA, foot_mapA, factsP_mapA, foot_bun, List.append_nil, List.nil_append, List.cons_append, List.nodup_cons, List.nodup_nil, List.mem_cons, List.not_mem_nil, List.mem_singleton, List.forall_mem_cons, not_or, not_false_eq_true, and_true, true_and, or_false, false_or, forall_eq_or_imp, forall_eq, implies_true, Nat.zero_add, Nat.reduceAdd, and_assoc, ptb_listA, factsP_listA, ptb_fam, factsP_fam, ptb_propA, factsP_propA, ptb_learnA, factsP_learnA, ptb_tabA, factsP_tabA, Nat.mul_one, sentCells, ptrCells] at cs
        (go_simp) <;> (with_reducible rfl)
      case' r2_5 =>
        try simp only [Act.put, List.setIfInBounds_toArray, List.set_cons_zero, List.set_cons_succ]
      refine takeH (i := 6) (v := ?v2_6) rfl (by kernel_rfl) (by kernel_rfl) (by kernel_rfl) (fun _ _ _ h => h) (by rfl) ?y2_6 (O.sel [true]) ?r2_6
      case y2_6 =>
        intro WW hSw
        (go_simp) <;> (with_reducible rfl)
      case' r2_6 =>
        try simp only [Act.put, List.setIfInBounds_toArray, List.set_cons_zero, List.set_cons_succ]
      refine takeH (i := 7) (v := ?v2_7) rfl (by kernel_rfl) (by kernel_rfl) (by kernel_rfl) (fun _ _ _ h => h) (by rfl) ?y2_7 (O.sel [true]) ?r2_7
      case y2_7 =>
        intro WW hSw
        (go_simp) <;> (with_reducible rfl)
      case' r2_7 =>
        try simp only [Act.put, List.setIfInBounds_toArray, List.set_cons_zero, List.set_cons_succ]
      refine takeH (i := 8) (v := ?v2_8) rfl (by kernel_rfl) (by kernel_rfl) (by kernel_rfl) (fun _ _ _ h => h) (by rfl) ?y2_8 (O.sel [true]) ?r2_8
      case y2_8 =>
        intro WW hSw
        replace hSw : Mem _ _ WW _ := hSw
        have cs := hSw.facts
        simp only [sel, factsP, cellsP, roomP, foots_cons, foots_nil, foots_append, foot_pt, ptb, ptb_mapA, foot_mapA, factsP_mapA, foot_bun, List.append_nil, List.nil_append, List.cons_append, List.nodup_cons, List.nodup_nil, List.mem_cons, List.not_mem_nil, List.mem_singleton, List.forall_mem_cons, not_or, not_false_eq_true, and_true, true_and, or_false, false_or, forall_eq_or_imp, forall_eq, implies_true, Nat.zero_add, Nat.reduceAdd, and_assoc, ptb_listA, factsP_listA, ptb_fam, factsP_fam, ptb_propA, factsP_propA, ptb_learnA, factsP_learnA, ptb_tabA, factsP_tabA, Nat.mul_one, sentCells, ptrCells] at cs
        (go_simp) <;> (with_reducible rfl)
      case' r2_8 =>
        try simp only [Act.put, List.setIfInBounds_toArray, List.set_cons_zero, List.set_cons_succ]
      refine takeH (i := 9) (v := ?v2_9) rfl (by kernel_rfl) (by kernel_rfl) (by kernel_rfl) (fun _ _ _ h => h) (by rfl) ?y2_9 (O.sel [true]) ?r2_9
      case y2_9 =>
        intro WW hSw
        (go_simp) <;> (with_reducible rfl)
      case' r2_9 =>
        try simp only [Act.put, List.setIfInBounds_toArray, List.set_cons_zero, List.set_cons_succ]
      refine takeH (i := 12) (v := ?v2_10) rfl (by kernel_rfl) (by kernel_rfl) (by kernel_rfl) (fun _ _ _ h => h) (by rfl) ?y2_10 (O.sel [true]) ?r2_10
      case y2_10 =>
        intro WW hSw
        (go_simp) <;> (with_reducible rfl)
      case' r2_10 =>
        try simp only [Act.put, List.setIfInBounds_toArray, List.set_cons_zero, List.set_cons_succ]
      refine takeH (i := 13) (v := ?v2_11) rfl (by kernel_rfl) (by kernel_rfl) (by kernel_rfl) (fun _ _ _ h => h) (by rfl) ?y2_11 (O.sel [true]) ?r2_11
      case y2_11 =>
        intro WW hSw
        (go_simp) <;> (with_reducible rfl)
      case' r2_11 =>
        try simp only [Act.put, List.setIfInBounds_toArray, List.set_cons_zero, List.set_cons_succ]
      apply cutT1
      case main =>
        intro hT2_0
        refine wpAnyH_ready (rs := [5, 10]) (by kernel_rfl) (by simp) ?_
        refine consH rfl (fun K hK => ?_) ?_
        · have cs := O.facts
          simp only [factsP, cellsP, roomP, foots_cons, foots_nil, foots_append, foot_pt, ptb, ptb_mapA, foot_mapA, factsP_mapA, foot_bun, List.append_nil, List.nil_append, List.cons_append, List.nodup_cons, List.nodup_nil, List.mem_cons, List.not_mem_nil, List.mem_singleton, List.forall_mem_cons, not_or, not_false_eq_true, and_true, true_and, or_false, false_or, forall_eq_or_imp, forall_eq, implies_true, Nat.zero_add, Nat.reduceAdd, and_assoc, ptb_listA, factsP_listA, ptb_fam, factsP_fam, ptb_propA, factsP_propA, ptb_learnA, factsP_learnA, ptb_tabA, factsP_tabA, Nat.mul_one, sentCells, ptrCells] at cs
          go_simp
          apply Mem.atK
          case h => repeat' (first | (with_reducible exact O) | (with_reducible apply Mem.drew) | (with_reducible apply Mem.drewN) | (with_reducible apply Mem.ext) | (with_reducible apply Mem.alloc) | (with_reducible apply Mem.setCell) | (simp only [ptb, ptb_upd, foots_cons, List.mem_cons, World.size_alloc, size_ext, World.size_setCell, true_or, or_true, eq_self_iff_true, ptb_listA, ptb_fam, ptb_propA, ptb_learnA, ptb_tabA]))
          intro w2_12 O'
          (try clear O)
          have O := O'
          clear O'
          (first | simp only [sel, rst, List.cons_append, List.nil_append, World.size_alloc, size_ext, World.size_setCell, size_setMap, World.size_drew, size_drewN, upd, List.set_cons_zero, List.set_cons_succ, if_true, if_false, reduceIte, not_false_eq_true, ne_lt0, ne_lt1, ne_lt2, ne_lt3, ne_lt4, cs] at O | simp only [sel, rst, List.cons_append, List.nil_append, World.size_alloc, size_ext, World.size_setCell, size_setMap, World.size_drew, size_drewN, upd, List.set_cons_zero, List.set_cons_succ, if_true, if_false, reduceIte, not_false_eq_true, ne_lt0, ne_lt1, ne_lt2, ne_lt3, ne_lt4] at O | skip)
          (try clear cs)
          (try clear v1)
          (try clear v2)
          (try clear v3)
          refine hK.out _ _ (O.sel [true]) (fun _ => ?_)
          clear hK K
          refine wpAnyH_ready (rs := [10]) (by kernel_rfl) (by simp) ?_
          refine consH rfl (fun K hK => ?_) AllReadyH.nil
          have cs := O.facts
          simp only [factsP, cellsP, roomP, foots_cons, foots_nil, foots_append, foot_pt, ptb, ptb_mapA, foot_mapA, factsP_mapA, foot_bun, List.append_nil, List.nil_append, List.cons_append, List.nodup_cons, List.nodup_nil, List.mem_cons, List.not_mem_nil, List.mem_singleton, List.forall_mem_cons, not_or, not_false_eq_true, and_true, true_and, or_false, false_or, forall_eq_or_imp, forall_eq, implies_true, Nat.zero_add, Nat.reduceAdd, and_assoc, ptb_listA, factsP_listA, ptb_fam, factsP_fam, ptb_propA, factsP_propA, ptb_learnA, factsP_learnA, ptb_tabA, factsP_tabA, Nat.mul_one, sentCells, ptrCells] at cs
          go_simp
          apply Mem.atK
          case h => repeat' (first | (with_reducible exact O) | (with_reducible apply Mem.drew) | (with_reducible apply Mem.drewN) | (with_reducible apply Mem.ext) | (with_reducible apply Mem.alloc) | (with_reducible apply Mem.setCell) | (simp only [ptb, ptb_upd, foots_cons, List.mem_cons, World.size_alloc, size_ext, World.size_setCell, true_or, or_true, eq_self_iff_true, ptb_listA, ptb_fam, ptb_propA, ptb_learnA, ptb_tabA]))
          intro w2_13 O'
          (try clear O)
          have O := O'
          clear O'
          (first | simp only [sel, rst, List.cons_append, List.nil_append, World.size_alloc, size_ext, World.size_setCell, size_setMap, World.size_drew, size_drewN, upd, List.set_cons_zero, List.set_cons_succ, if_true, if_false, reduceIte, not_false_eq_true, ne_lt0, ne_lt1, ne_lt2, ne_lt3, ne_lt4, cs] at O | simp only [sel, rst, List.cons_append, List.nil_append, World.size_alloc, size_ext, World.size_setCell, size_setMap, World.size_drew, size_drewN, upd, List.set_cons_zero, List.set_cons_succ, if_true, if_false, reduceIte, not_false_eq_true, ne_lt0, ne_lt1, ne_lt2, ne_lt3, ne_lt4] at O | skip)
          (try clear cs)
          (try clear v1)
          (try clear v2)
          (try clear v3)
          generalize w2_12.heap.size = p2_14 at O ⊢
          refine hK.out _ _ (O.sel [false, true]) (fun _ => ?_)
          clear hK K
          revert O
          exact hT2_0.out p2_14 w2_13
        refine consH rfl (fun K hK => ?_) ?_
        · have cs := O.facts
          simp only [factsP, cellsP, roomP, foots_cons, foots_nil, foots_append, foot_pt, ptb, ptb_mapA, foot_mapA, factsP_mapA, foot_bun, List.append_nil, List.nil_append, List.cons_append, List.nodup_cons, List.nodup_nil, List.mem_cons, List.not_mem_nil, List.mem_singleton, List.forall_mem_cons, not_or, not_false_eq_true, and_true, true_and, or_false, false_or, forall_eq_or_imp, forall_eq, implies_true, Nat.zero_add, Nat.reduceAdd, and_assoc, ptb_listA, factsP_listA, ptb_fam, factsP_fam, ptb_propA, factsP_propA, ptb_learnA, factsP_learnA, ptb_tabA, factsP_tabA, Nat.mul_one, sentCells, ptrCells] at cs
          go_simp
          apply Mem.atK
          case h => repeat' (first | (with_reducible exact O) | (with_reducible apply Mem.drew) | (with_reducible apply Mem.drewN) | (with_reducible apply Mem.ext) | (with_reducible apply Mem.alloc) | (with_reducible apply Mem.setCell) | (simp only [ptb, ptb_upd, foots_cons, List.mem_cons, World.size_alloc, size_ext, World.size_setCell, true_or, or_true, eq_self_iff_true, ptb_listA, ptb_fam, ptb_propA, ptb_learnA, ptb_tabA]))
          intro w2_15 O'
          (try clear O)
          have O := O'
          clear O'
          (first | simp only [sel, rst, List.cons_append, List.nil_append, World.size_alloc, size_ext, World.size_setCell, size_setMap, World.size_drew, size_drewN, upd, List.set_cons_zero, List.set_cons_succ, if_true, if_false, reduceIte, not_false_eq_true, ne_lt0, ne_lt1, ne_lt2, ne_lt3, ne_lt4, cs] at O | simp only [sel, rst, List.cons_append, List.nil_append, World.size_alloc, size_ext, World.size_setCell, size_setMap, World.size_drew, size_drewN, upd, List.set_cons_zero, List.set_cons_succ, if_true, if_false, reduceIte, not_false_eq_true, ne_lt0, ne_lt1, ne_lt2, ne_lt3, ne_lt4] at O | skip)
          (try clear cs)
          (try clear v1)
          (try clear v2)
          (try clear v3)
          generalize wr2.heap.size = p2_16 at O ⊢
          refine hK.out _ _ (O.sel [false, true]) (fun _ => ?_)
          clear hK K
          refine wpAnyH_ready (rs := [5]) (by kernel_rfl) (by simp) ?_
          refine consH rfl (fun K hK => ?_) AllReadyH.nil
          have cs := O.facts
          simp only [factsP, cellsP, roomP, foots_cons, foots_nil, foots_append, foot_pt, ptb, ptb_mapA, foot_mapA, factsP_mapA, foot_bun, List.append_nil, List.nil_append, List.cons_append, List.nodup_cons, List.nodup_nil, List.mem_cons, List.not_mem_nil, List.mem_singleton, List.forall_mem_cons, not_or, not_false_eq_true, and_true, true_and, or_false, false_or, forall_eq_or_imp, forall_eq, implies_true, Nat.zero_add, Nat.reduceAdd, and_assoc, ptb_listA, factsP_listA, ptb_fam, factsP_fam, ptb_propA, factsP_propA, ptb_learnA, factsP_learnA, ptb_tabA, factsP_tabA, Nat.mul_one, sentCells, ptrCells] at cs
          go_simp
          apply Mem.atK
          case h => repeat' (first | (with_reducible exact O) | (with_reducible apply Mem.drew) | (with_reducible apply Mem.drewN) | (with_reducible apply Mem.ext) | (with_reducible apply Mem.alloc) | (with_reducible apply Mem.setCell) | (simp only [ptb, ptb_upd, foots_cons, List.mem_cons, World.size_alloc, size_ext, World.size_setCell, true_or, or_true, eq_self_iff_true, ptb_listA, ptb_fam, ptb_propA, ptb_learnA, ptb_tabA]))
          intro w2_17 O'
          (try clear O)
          have O := O'
          clear O'
          (first | simp only [sel, rst, List.cons_append, List.nil_append, World.size_alloc, size_ext, World.size_setCell, size_setMap, World.size_drew, size_drewN, upd, List.set_cons_zero, List.set_cons_succ, if_true, if_false, reduceIte, not_false_eq_true, ne_lt0, ne_lt1, ne_lt2, ne_lt3, ne_lt4, cs] at O | simp only [sel, rst, List.cons_append, List.nil_append, World.size_alloc, size_ext, World.size_setCell, size_setMap, World.size_drew, size_drewN, upd, List.set_cons_zero, List.set_cons_succ, if_true, if_false, reduceIte, not_false_eq_true, ne_lt0, ne_lt1, ne_lt2, ne_lt3, ne_lt4] at O | skip)
          (try clear cs)
          (try clear v1)
          (try clear v2)
          (try clear v3)
          refine hK.out _ _ (O.sel [false, true]) (fun _ => ?_)
          clear hK K
          revert O
          exact hT2_0.out p2_16 w2_17
        exact AllReadyH.nil
      case' tail =>
        intro q2_18 w2_19 O
      refine wpAnyH_ready (rs := [11]) (by kernel_rfl) (by simp) ?_
      refine consH rfl (fun K hK => ?_) AllReadyH.nil
      have cs := O.facts
      simp only [factsP, cellsP, roomP, foots_cons, foots_nil, foots_append, foot_pt, ptb, ptb_mapA, foot_mapA, factsP_mapA, foot_bun, List.append_nil, List.nil_append, List.cons_append, List.nodup_cons, List.nodup_nil, List.mem_cons, List.not_mem_nil, List.mem_singleton, List.forall_mem_cons, not_or, not_false_eq_true, and_true, true_and, or_false, false_or, forall_eq_or_imp, forall_eq, implies_true, Nat.zero_add, Nat.reduceAdd, and_assoc, ptb_listA, factsP_listA, ptb_fam, factsP_fam, ptb_propA, factsP_propA, ptb_learnA, factsP_learnA, ptb_tabA, factsP_tabA, Nat.mul_one, sentCells, ptrCells] at cs
      (try clear cs)
      (try clear v1)
      (try clear v2)
      (try clear v3)
      refine sentTy.if_app (O.front1 [false, false, false, false, false, false, false, false, false, false, false, true] rfl) rfl rfl (by simp) rfl [⟨j, (k : Int), ⟨round + 1, p.node⟩, .empty, noA⟩] rfl rfl (src_one (x := (⟨j, (k : Int), ⟨round + 1, p.node⟩, .empty, noA⟩ : Sent)) (fun _ => rfl) O (List.mem_cons_self ..)) (by simp; omega) ?_
      intro B' d' w2_20 O'
      (try clear O)
      have O := O'.unfront
      clear O'
      simp only [put, List.cons_append, List.nil_append] at O
      refine hK.out _ _ (O.sel [false, true]) (fun _ => ?_)
      clear hK K
      refine takeH (i := 14) (v := ?v2_21) rfl (by kernel_rfl) (by kernel_rfl) (by kernel_rfl) (fun _ _ _ h => h) (by rfl) ?y2_21 (O.sel [false, true]) ?r2_21
      case y2_21 =>
        intro WW hSw
        replace hSw : Mem _ _ WW _ := hSw
        have cs := hSw.facts
        simp only [sel, factsP, cellsP, roomP, foots_cons, foots_nil, foots_append, foot_pt, ptb, ptb_mapA, foot_mapA, factsP_mapA, foot_bun, List.append_nil, List.nil_append, List.cons_append, List.nodup_cons, List.nodup_nil, List.mem_cons, List.not_mem_nil, List.mem_singleton, List.forall_mem_cons, not_or, not_false_eq_true, and_true, true_and, or_false, false_or, forall_eq_or_imp, forall_eq, implies_true, Nat.zero_add, Nat.reduceAdd, and_assoc, ptb_listA, factsP_listA, ptb_fam, factsP_fam, ptb_propA, factsP_propA, ptb_learnA, factsP_learnA, ptb_tabA, factsP_tabA, Nat.mul_one, sentCells, ptrCells] at cs
        (go_simp) <;> (with_reducible rfl)
      case' r2_21 =>
        try simp only [Act.put, List.setIfInBounds_toArray, List.set_cons_zero, List.set_cons_succ]
      refine wpAnyH_ready (rs := [15]) (by kernel_rfl) (by simp) ?_
      refine consH rfl (fun K hK => ?_) AllReadyH.nil
      have cs := O.facts
      simp only [factsP, cellsP, roomP, foots_cons, foots_nil, foots_append, foot_pt, ptb, ptb_mapA, foot_mapA, factsP_mapA, foot_bun, List.append_nil, List.nil_append, List.cons_append, List.nodup_cons, List.nodup_nil, List.mem_cons, List.not_mem_nil, List.mem_singleton, List.forall_mem_cons, not_or, not_false_eq_true, and_true, true_and, or_false, false_or, forall_eq_or_imp, forall_eq, implies_true, Nat.zero_add, Nat.reduceAdd, and_assoc, ptb_listA, factsP_listA, ptb_fam, factsP_fam, ptb_propA, factsP_propA, ptb_learnA, factsP_learnA, ptb_tabA, factsP_tabA, Nat.mul_one, sentCells, ptrCells] at cs
      go_simp
      apply Mem.atK
      case h => repeat' (first | (with_reducible exact O) | (with_reducible apply Mem.drew) | (with_reducible apply Mem.drewN) | (with_reducible apply Mem.ext) | (with_reducible apply Mem.alloc) | (with_reducible apply Mem.setCell) | (simp only [ptb, ptb_upd, foots_cons, List.mem_cons, World.size_alloc, size_ext, World.size_setCell, true_or, or_true, eq_self_iff_true, ptb_listA, ptb_fam, ptb_propA, ptb_learnA, ptb_tabA]))
      intro w2_22 O'
      (try clear O)
      have O := O'
      clear O'
      (first | simp only [sel, rst, List.cons_append, List.nil_append, World.size_alloc, size_ext, World.size_setCell, size_setMap, World.size_drew, size_drewN, upd, List.set_cons_zero, List.set_cons_succ, if_true, if_false, reduceIte, not_false_eq_true, ne_lt0, ne_lt1, ne_lt2, ne_lt3, ne_lt4, cs] at O | simp only [sel, rst, List.cons_append, List.nil_append, World.size_alloc, size_ext, World.size_setCell, size_setMap, World.size_drew, size_drewN, upd, List.set_cons_zero, List.set_cons_succ, if_true, if_false, reduceIte, not_false_eq_true, ne_lt0, ne_lt1, ne_lt2, ne_lt3, ne_lt4] at O | skip)
      (try clear cs)
      (try clear v1)
      (try clear v2)
      (try clear v3)
      refine hK.out _ _ (O.sel [false, true]) (fun _ => ?_)
      clear hK K
      refine wpAnyH_done (by kernel_rfl) ?_ _
      have cs := O.facts
      simp only [factsP, cellsP, roomP, foots_cons, foots_nil, foots_append, foot_pt, ptb, ptb_mapA, foot_mapA, factsP_mapA, foot_bun, List.append_nil, List.nil_append, List.cons_append, List.nodup_cons, List.nodup_nil, List.mem_cons, List.not_mem_nil, List.mem_singleton, List.forall_mem_cons, not_or, not_false_eq_true, and_true, true_and, or_false, false_or, forall_eq_or_imp, forall_eq, implies_true, Nat.zero_add, Nat.reduceAdd, and_assoc, ptb_listA, factsP_listA, ptb_fam, factsP_fam, ptb_propA, factsP_propA, ptb_learnA, factsP_learnA, ptb_tabA, factsP_tabA, Nat.mul_one, sentCells, ptrCells] at cs
      go_wp2_with fail
      go_roundw
      case rel =>
        refine ⟨j + 1, B', d', by omega, by go_num, ?_⟩
        rw [List.range_succ, List.map_append, ← List.append_assoc]
        try simp only [List.length_append, List.length_map, List.length_range, List.length_cons, List.length_nil, Nat.zero_add] at O
        exact O.sel [false, true, true, true, true, true, true, true, true, true, true, true, true, true, true]
      case measure => simp [intOf]; omega
    · obtain rfl : j = n := by omega
      have cs := O.facts
      simp only [factsP, cellsP, roomP, foots_cons, foots_nil, foots_append, foot_pt, ptb, ptb_mapA, foot_mapA, factsP_mapA, foot_bun, List.append_nil, List.nil_append, List.cons_append, List.nodup_cons, List.nodup_nil, List.mem_cons, List.not_mem_nil, List.mem_singleton, List.forall_mem_cons, not_or, not_false_eq_true, and_true, true_and, or_false, false_or, forall_eq_or_imp, forall_eq, implies_true, Nat.zero_add, Nat.reduceAdd, and_assoc, ptb_listA, factsP_listA, ptb_fam, factsP_fam, ptb_propA, factsP_propA, ptb_learnA, factsP_learnA, ptb_tabA, factsP_tabA, Nat.mul_one, sentCells, ptrCells] at cs
      go_wp2_with fail
      refine bodyPost_end (results_none rfl _ _ _) rfl ⟨rfl, ?_⟩
      refine ⟨⟨A1, c1, (some ⟨g, 0, none⟩), c2, A3, c3, tabs, (props.set k (pb, mo'.1, ⟨p.node, p.n, ⟨round + 1, p.node⟩, [], noA, ev⟩)), learns, round + 1, vote, B, d, (l2 ++ (List.range j).map (fun i => ⟨i, (k : Int), ⟨round + 1, p.node⟩, .empty, noA⟩)), B3, d3, l3, B4, d4, l4, B5, d5, l5⟩, ?_, ?_, by simp [PxM.size]; omega, ?_, rfl, rfl⟩
      · have hmv := Move.begin (n := j) k p ev HPS.out
        have e : (props.set k (pb, mo'.1, ⟨p.node, p.n, ⟨round + 1, p.node⟩, [], noA, ev⟩)).map (·.2.2) = (props.map (·.2.2)).set k ⟨p.node, p.n, ⟨round + 1, p.node⟩, [], noA, ev⟩ := by rw [List.map_set]
        unfold beginS at hmv
        unfold PxM.st at hmv ⊢
        simp only [e]
        exact hmv
      · rw [← HF.out]
        simp only [PxM.parts, PxM.cells, map_set_fst (f := fun x : Nat × Option Nat × Prop11 => x.1) (a' := (pb, mo'.1, ⟨p.node, p.n, ⟨round + 1, p.node⟩, [], noA, ev⟩)) HP.out rfl, List.length_append, List.length_map, List.length_range]
        exact O.sel [false, false, false, true, true, true, true, true, true, true, true, true, true, true]
      · intro q hq
        rcases List.mem_or_eq_of_mem_set hq with hq | rfl
        · exact HMO.out q hq
        · exact mo'.2
end Go.Proofs.Ytkhpikjmhamppaa
