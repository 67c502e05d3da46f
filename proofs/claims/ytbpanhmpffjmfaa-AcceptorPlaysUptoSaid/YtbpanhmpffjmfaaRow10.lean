/- WALKS: the document's table of an acceptor, its rows made and changed. -/
import Derived.Test.YtbpanhmpffjmfaaRef10
import Derived.Test.YtbpanhmpffjmfaaPromPlain
set_option linter.unusedVariables false
set_option linter.unusedSimpArgs false
namespace Go.Proofs.Ytbpanhmpffjmfaa
open Go.RowKit Go.Tk

theorem infoRow : ∃ i, Try.prog.info? 69 = some i ∧ i.zero = some (.agg #[.int .u64 0, .int .i64 0, .int .i64 0, .int .u32 0, .int .u32 0, .int .u8 0, .bool false, .int .u32 0, .int .u8 0, .string .empty]) ∧ i.size = 10 ∧ i.bytes ≤ 200 := by
  have h : (Try.prog.info? 69).map (fun i => (i.zero, i.size, decide (i.bytes ≤ 200))) = some (some (.agg #[.int .u64 0, .int .i64 0, .int .i64 0, .int .u32 0, .int .u32 0, .int .u8 0, .bool false, .int .u32 0, .int .u8 0, .string .empty]), 10, true) := by kernel_rfl
  cases hi : Try.prog.info? 69 with
  | none => rw [hi] at h; simp at h
  | some i =>
    rw [hi] at h
    simp only [Option.map_some, Option.some.injEq, Prod.mk.injEq, decide_eq_true_eq] at h
    exact ⟨i, rfl, h.1, h.2.1, h.2.2⟩
section
variable {w0 w : World} {F : List Nat} {L : List Asn} {A : Option Addr} {c : Nat} {l : Rows10} {ops : Array Oper} {rest : List Oper} {o : Oper} {a : Act} {Q : Exit → Act → World → Prop}
theorem op_app_row {K : Act → World → Prop} (h : Mem w0 F w (listA 69 10 rowCells A c l :: L)) (hgd : o.guard = none) {s x : Operand} (ho : o.op = .call { callee := .builtin .append, args := #[s, x], argTypes := #[48, 48] })
    {n0 : Nat} (hl : l.length = n0) (hs : a.eval s = .slice A n0 c) (new : Rows10) {B : Option Addr} {c2 n : Nat} (hnew : new.length = n) (hx : a.eval x = .slice B n c2) (hsrc : Src w B 10 n (new.flatMap rowCells)) (hn : l.length + new.length ≤ 5000)
    (hK : ∀ A' c' w', Mem w0 F w' (listA 69 10 rowCells A' c' (l ++ new) :: L) → K (a.put o.dst (.slice A' (l ++ new).length c')) w') : o.wp Try.prog a w K Q := by
  obtain ⟨i, hi, hz, hsz, hby⟩ := infoRow
  subst hnew
  subst hl
  exact oper_append_mem h hgd s x _ ho i _ i.bytes Try.underlying48 hi hz hsz rfl rfl (by omega) hs B c2 new hx hsrc rowCells_one (by unfold maxLen; omega) (Nat.le_trans (Nat.mul_le_mul hn hby) (by omega)) hK
theorem if_app_row {K : Act → World → Prop} (h : Mem w0 F w (listA 69 10 rowCells A c l :: L)) (hgd : o.guard = none) {s x : Operand} (ho : o.op = .call { callee := .builtin .append, args := #[s, x], argTypes := #[48, 48] })
    {n0 : Nat} (hl : l.length = n0) (hs : a.eval s = .slice A n0 c) (new : Rows10) {B : Option Addr} {c2 n : Nat} (hnew : new.length = n) (hx : a.eval x = .slice B n c2) (hsrc : Src w B 10 n (new.flatMap rowCells)) (hn : l.length + new.length ≤ 5000)
    (hK : ∀ A' c' w', Mem w0 F w' (listA 69 10 rowCells A' c' (l ++ new) :: L) → K (a.put o.dst (.slice A' (l ++ new).length c')) w') : if Region.wanted o (yielded ops a.tmps) = true then o.wp Try.prog a w K Q else K (a.put o.dst undef) w := by
  rw [if_pos (by simp [Region.wanted, hgd])]
  exact op_app_row h hgd ho hl hs new hnew hx hsrc hn hK
theorem wl_app_row (h : Mem w0 F w (listA 69 10 rowCells A c l :: L)) (hgd : o.guard = none) {s x : Operand} (ho : o.op = .call { callee := .builtin .append, args := #[s, x], argTypes := #[48, 48] })
    {n0 : Nat} (hl : l.length = n0) (hs : a.eval s = .slice A n0 c) (new : Rows10) {B : Option Addr} {c2 n : Nat} (hnew : new.length = n) (hx : a.eval x = .slice B n c2) (hsrc : Src w B 10 n (new.flatMap rowCells)) (hn : l.length + new.length ≤ 5000)
    (hK : ∀ A' c' w', Mem w0 F w' (listA 69 10 rowCells A' c' (l ++ new) :: L) → wpList Try.prog ops Q rest (a.put o.dst (.slice A' (l ++ new).length c')) w') : wpList Try.prog ops Q (o :: rest) a w :=
  wpList_plain hgd fun K' hK' => op_app_row h hgd ho hl hs new hnew hx hsrc hn (fun A' c' w' hM => hK' _ _ (hK A' c' w' hM))
end
/-- an instance's row, a new one if it is not known -/
def rowR (most : Int) (m : Rows10) (i : Inst) : Int × Rows10 :=
  if findI m i < m.length then ((findI m i : Int), m) else if (m.length : Int) < most then ((m.length : Int), m ++ [(i, noRow)]) else (-1, m)

set_option maxRecDepth 100000 in
set_option maxHeartbeats 8000000 in
theorem ref_row (w : World) (tb : Nat) (most : Int) (A : Option Addr) (c : Nat) (m : Rows10) (i : Inst) (h : Pre w (refL tb most A c m)) (hsz : m.length ≤ 4096) :
    Calls Try.prog 28 #[.pointer (some ⟨tb, 0, none⟩), i.val] w (fun e w' => e = .returned (.int .i64 (rowR most m i).1) ∧ ∃ A' c', Mem w (foots (refL tb most A c m)) w' (refL tb most A' c' (rowR most m i).2)) := by
  obtain ⟨v, hv⟩ : ∃ v, v = rowR most m i := ⟨_, rfl⟩
  rw [← hv]
  have HV := Lib.hid hv
  clear hv
  obtain ⟨fp, hfp⟩ : ∃ F, F = foots (refL tb most A c m) := ⟨_, rfl⟩
  have O : Mem w fp w (refL tb most A c m) := by rw [hfp]; exact h
  rw [← hfp]
  clear hfp h
  have C := Lib.hid (fun W (h : Pre W (refL tb most A c m)) => ref_Find W tb most A c m i h hsz)
  simp only [Inst.val] at C ⊢
  simp only [refL] at O
  skip
  have hkf := findI_le m i
  by_cases hf : findI m i < m.length
  · have hvv : v = ((findI m i : Int), m) := by rw [HV.out]; simp [rowR, hf]
    subst hvv
    have hfr : findR m i = (findI m i : Int) := by simp [findR, hf]
    rw [hfr] at C
    clear hfr HV
    generalize findI m i = kf at *
    have hk0 : decide ((kf : Int) < 0) = false := by simp
    go_enter Try.func28, Try.ntmps28
    have cs := O.facts
    simp only [factsP, cellsP, roomP, foots_cons, foots_nil, foots_append, foot_pt, ptb, ptb_mapA, foot_mapA, factsP_mapA, foot_bun, List.append_nil, List.nil_append, List.cons_append, List.nodup_cons, List.nodup_nil, List.mem_cons, List.not_mem_nil, List.mem_singleton, List.forall_mem_cons, not_or, not_false_eq_true, and_true, true_and, or_false, false_or, forall_eq_or_imp, forall_eq, implies_true, Nat.zero_add, Nat.reduceAdd, and_assoc, ptb_listA, factsP_listA, refL, rowCells] at cs
    go_wp2_with fail
    first | apply Mem.atCall | apply Mem.atCode | apply Mem.atList
    case h => repeat' (first | (with_reducible exact O) | (with_reducible apply Mem.drew) | (with_reducible apply Mem.drewN) | (with_reducible apply Mem.ext) | (with_reducible apply Mem.alloc) | (with_reducible apply Mem.setCell) | (simp only [ptb, ptb_upd, foots_cons, List.mem_cons, World.size_alloc, size_ext, World.size_setCell, true_or, or_true, eq_self_iff_true]))
    case' k =>
      intro w1 O'
      (try clear O)
      have O := O'
      clear O'
      (first | simp only [sel, rst, List.cons_append, List.nil_append, World.size_alloc, size_ext, World.size_setCell, size_setMap, World.size_drew, size_drewN, upd, List.set_cons_zero, List.set_cons_succ, if_true, reduceIte, not_false_eq_true, cs] at O | simp only [sel, rst, List.cons_append, List.nil_append, World.size_alloc, size_ext, World.size_setCell, size_setMap, World.size_drew, size_drewN, upd, List.set_cons_zero, List.set_cons_succ, if_true, reduceIte, not_false_eq_true] at O | skip)
      (try clear cs)
      (try clear v1)
      (try clear v2)
      (try clear v3)
    refine (C.out w1 (O.pre [false, true, true])).mono ?_
    rintro e w2 ⟨rfl, o⟩
    replace O := O.callp [] o
    clear o
    simp only [put, List.cons_append, List.nil_append] at O
    have cs := O.facts
    simp only [factsP, cellsP, roomP, foots_cons, foots_nil, foots_append, foot_pt, ptb, ptb_mapA, foot_mapA, factsP_mapA, foot_bun, List.append_nil, List.nil_append, List.cons_append, List.nodup_cons, List.nodup_nil, List.mem_cons, List.not_mem_nil, List.mem_singleton, List.forall_mem_cons, not_or, not_false_eq_true, and_true, true_and, or_false, false_or, forall_eq_or_imp, forall_eq, implies_true, Nat.zero_add, Nat.reduceAdd, and_assoc, ptb_listA, factsP_listA, refL, rowCells] at cs
    go_wp2_with fail
    apply region_quiet_mem (by kernel_rfl) (by kernel_rfl)
    case O => repeat' (first | (with_reducible exact O) | (with_reducible apply Mem.drew) | (with_reducible apply Mem.drewN) | (with_reducible apply Mem.ext) | (with_reducible apply Mem.alloc) | (with_reducible apply Mem.setCell) | (simp only [ptb, ptb_upd, foots_cons, List.mem_cons, World.size_alloc, size_ext, World.size_setCell, true_or, or_true, eq_self_iff_true]))
    case' h =>
      intro w3 O'
      (try clear O)
      have O := O'
      clear O'
      (first | simp only [sel, rst, List.cons_append, List.nil_append, World.size_alloc, size_ext, World.size_setCell, size_setMap, World.size_drew, size_drewN, upd, List.set_cons_zero, List.set_cons_succ, if_true, reduceIte, not_false_eq_true, cs] at O | simp only [sel, rst, List.cons_append, List.nil_append, World.size_alloc, size_ext, World.size_setCell, size_setMap, World.size_drew, size_drewN, upd, List.set_cons_zero, List.set_cons_succ, if_true, reduceIte, not_false_eq_true] at O | skip)
      (try clear cs)
      (try clear v1)
      (try clear v2)
      (try clear v3)
    have cs := O.facts
    simp only [factsP, cellsP, roomP, foots_cons, foots_nil, foots_append, foot_pt, ptb, ptb_mapA, foot_mapA, factsP_mapA, foot_bun, List.append_nil, List.nil_append, List.cons_append, List.nodup_cons, List.nodup_nil, List.mem_cons, List.not_mem_nil, List.mem_singleton, List.forall_mem_cons, not_or, not_false_eq_true, and_true, true_and, or_false, false_or, forall_eq_or_imp, forall_eq, implies_true, Nat.zero_add, Nat.reduceAdd, and_assoc, ptb_listA, factsP_listA, refL, rowCells] at cs
    repeat (go_big_quiet_step ((fail)))
    refine wpQuiet_nil ?_
    intro w4 hq
    (try clear cs)
    (try clear v1)
    (try clear v2)
    (try clear v3)
    replace O := O.qext hq
    clear hq
    have cs := O.facts
    simp only [factsP, cellsP, roomP, foots_cons, foots_nil, foots_append, foot_pt, ptb, ptb_mapA, foot_mapA, factsP_mapA, foot_bun, List.append_nil, List.nil_append, List.cons_append, List.nodup_cons, List.nodup_nil, List.mem_cons, List.not_mem_nil, List.mem_singleton, List.forall_mem_cons, not_or, not_false_eq_true, and_true, true_and, or_false, false_or, forall_eq_or_imp, forall_eq, implies_true, Nat.zero_add, Nat.reduceAdd, and_assoc, ptb_listA, factsP_listA, refL, rowCells] at cs
    go_wp2_with fail
    go_ret
    exact ⟨rfl, A, c, O.sel [false, true, true]⟩
  · have hfr : findR m i = -1 := by simp [findR, hf]
    rw [hfr] at C
    clear hfr
    by_cases hm : (m.length : Int) < most
    · have hvv : v = ((m.length : Int), m ++ [(i, noRow)]) := by rw [HV.out]; simp [rowR, hf, hm]
      subst hvv
      clear HV hf hkf
      have hmt : decide ((m.length : Int) < most) = true := by simp [hm]
      go_enter Try.func28, Try.ntmps28
      have cs := O.facts
      simp only [factsP, cellsP, roomP, foots_cons, foots_nil, foots_append, foot_pt, ptb, ptb_mapA, foot_mapA, factsP_mapA, foot_bun, List.append_nil, List.nil_append, List.cons_append, List.nodup_cons, List.nodup_nil, List.mem_cons, List.not_mem_nil, List.mem_singleton, List.forall_mem_cons, not_or, not_false_eq_true, and_true, true_and, or_false, false_or, forall_eq_or_imp, forall_eq, implies_true, Nat.zero_add, Nat.reduceAdd, and_assoc, ptb_listA, factsP_listA, refL, rowCells] at cs
      go_wp2_with fail
      first | apply Mem.atCall | apply Mem.atCode | apply Mem.atList
      case h => repeat' (first | (with_reducible exact O) | (with_reducible apply Mem.drew) | (with_reducible apply Mem.drewN) | (with_reducible apply Mem.ext) | (with_reducible apply Mem.alloc) | (with_reducible apply Mem.setCell) | (simp only [ptb, ptb_upd, foots_cons, List.mem_cons, World.size_alloc, size_ext, World.size_setCell, true_or, or_true, eq_self_iff_true]))
      case' k =>
        intro w1 O'
        (try clear O)
        have O := O'
        clear O'
        (first | simp only [sel, rst, List.cons_append, List.nil_append, World.size_alloc, size_ext, World.size_setCell, size_setMap, World.size_drew, size_drewN, upd, List.set_cons_zero, List.set_cons_succ, if_true, reduceIte, not_false_eq_true, cs] at O | simp only [sel, rst, List.cons_append, List.nil_append, World.size_alloc, size_ext, World.size_setCell, size_setMap, World.size_drew, size_drewN, upd, List.set_cons_zero, List.set_cons_succ, if_true, reduceIte, not_false_eq_true] at O | skip)
        (try clear cs)
        (try clear v1)
        (try clear v2)
        (try clear v3)
      refine (C.out w1 (O.pre [false, true, true])).mono ?_
      rintro e w2 ⟨rfl, o⟩
      replace O := O.callp [] o
      clear o
      simp only [put, List.cons_append, List.nil_append] at O
      have cs := O.facts
      simp only [factsP, cellsP, roomP, foots_cons, foots_nil, foots_append, foot_pt, ptb, ptb_mapA, foot_mapA, factsP_mapA, foot_bun, List.append_nil, List.nil_append, List.cons_append, List.nodup_cons, List.nodup_nil, List.mem_cons, List.not_mem_nil, List.mem_singleton, List.forall_mem_cons, not_or, not_false_eq_true, and_true, true_and, or_false, false_or, forall_eq_or_imp, forall_eq, implies_true, Nat.zero_add, Nat.reduceAdd, and_assoc, ptb_listA, factsP_listA, refL, rowCells] at cs
      go_wp2_with fail
      apply region_quiet_mem (by kernel_rfl) (by kernel_rfl)
      case O => repeat' (first | (with_reducible exact O) | (with_reducible apply Mem.drew) | (with_reducible apply Mem.drewN) | (with_reducible apply Mem.ext) | (with_reducible apply Mem.alloc) | (with_reducible apply Mem.setCell) | (simp only [ptb, ptb_upd, foots_cons, List.mem_cons, World.size_alloc, size_ext, World.size_setCell, true_or, or_true, eq_self_iff_true]))
      case' h =>
        intro w3 O'
        (try clear O)
        have O := O'
        clear O'
        (first | simp only [sel, rst, List.cons_append, List.nil_append, World.size_alloc, size_ext, World.size_setCell, size_setMap, World.size_drew, size_drewN, upd, List.set_cons_zero, List.set_cons_succ, if_true, reduceIte, not_false_eq_true, cs] at O | simp only [sel, rst, List.cons_append, List.nil_append, World.size_alloc, size_ext, World.size_setCell, size_setMap, World.size_drew, size_drewN, upd, List.set_cons_zero, List.set_cons_succ, if_true, reduceIte, not_false_eq_true] at O | skip)
        (try clear cs)
        (try clear v1)
        (try clear v2)
        (try clear v3)
      have cs := O.facts
      simp only [factsP, cellsP, roomP, foots_cons, foots_nil, foots_append, foot_pt, ptb, ptb_mapA, foot_mapA, factsP_mapA, foot_bun, List.append_nil, List.nil_append, List.cons_append, List.nodup_cons, List.nodup_nil, List.mem_cons, List.not_mem_nil, List.mem_singleton, List.forall_mem_cons, not_or, not_false_eq_true, and_true, true_and, or_false, false_or, forall_eq_or_imp, forall_eq, implies_true, Nat.zero_add, Nat.reduceAdd, and_assoc, ptb_listA, factsP_listA, refL, rowCells] at cs
      repeat (go_big_quiet_step ((fail)))
      refine wpQuiet_nil ?_
      intro w4 hq
      (try clear cs)
      (try clear v1)
      (try clear v2)
      (try clear v3)
      replace O := O.qext hq
      clear hq
      have cs := O.facts
      simp only [factsP, cellsP, roomP, foots_cons, foots_nil, foots_append, foot_pt, ptb, ptb_mapA, foot_mapA, factsP_mapA, foot_bun, List.append_nil, List.nil_append, List.cons_append, List.nodup_cons, List.nodup_nil, List.mem_cons, List.not_mem_nil, List.mem_singleton, List.forall_mem_cons, not_or, not_false_eq_true, and_true, true_and, or_false, false_or, forall_eq_or_imp, forall_eq, implies_true, Nat.zero_add, Nat.reduceAdd, and_assoc, ptb_listA, factsP_listA, refL, rowCells] at cs
      go_wp2_with fail
      apply region_held_mem [] (by kernel_rfl)
      case O => repeat' (first | (with_reducible exact O) | (with_reducible apply Mem.drew) | (with_reducible apply Mem.drewN) | (with_reducible apply Mem.ext) | (with_reducible apply Mem.alloc) | (with_reducible apply Mem.setCell) | (simp only [ptb, ptb_upd, foots_cons, List.mem_cons, World.size_alloc, size_ext, World.size_setCell, true_or, or_true, eq_self_iff_true]))
      case' h =>
        intro wr1 O'
        (try clear O)
        have O := O'
        clear O'
        (first | simp only [sel, rst, List.cons_append, List.nil_append, World.size_alloc, size_ext, World.size_setCell, size_setMap, World.size_drew, size_drewN, upd, List.set_cons_zero, List.set_cons_succ, if_true, reduceIte, not_false_eq_true, cs] at O | simp only [sel, rst, List.cons_append, List.nil_append, World.size_alloc, size_ext, World.size_setCell, size_setMap, World.size_drew, size_drewN, upd, List.set_cons_zero, List.set_cons_succ, if_true, reduceIte, not_false_eq_true] at O | skip)
        (try clear cs)
        (try clear v1)
        (try clear v2)
        (try clear v3)
      refine takeH (i := 0) (v := ?v1_1) rfl (by kernel_rfl) (by kernel_rfl) (by kernel_rfl) (fun _ _ _ h => h) (by rfl) ?y1_1 (O.sel []) ?r1_1
      case y1_1 =>
        intro WW hSw
        (go_simp) <;> (with_reducible rfl)
      case' r1_1 =>
        try simp only [Act.put, List.setIfInBounds_toArray, List.set_cons_zero, List.set_cons_succ]
      refine takeH (i := 1) (v := ?v1_2) rfl (by kernel_rfl) (by kernel_rfl) (by kernel_rfl) (fun _ _ _ h => h) (by rfl) ?y1_2 (O.sel []) ?r1_2
      case y1_2 =>
        intro WW hSw
        (go_simp) <;> (with_reducible rfl)
      case' r1_2 =>
        try simp only [Act.put, List.setIfInBounds_toArray, List.set_cons_zero, List.set_cons_succ]
      refine takeH (i := 2) (v := ?v1_3) rfl (by kernel_rfl) (by kernel_rfl) (by kernel_rfl) (fun _ _ _ h => h) (by rfl) ?y1_3 (O.sel []) ?r1_3
      case y1_3 =>
        intro WW hSw
        (go_simp) <;> (with_reducible rfl)
      case' r1_3 =>
        try simp only [Act.put, List.setIfInBounds_toArray, List.set_cons_zero, List.set_cons_succ]
      refine takeH (i := 3) (v := ?v1_4) rfl (by kernel_rfl) (by kernel_rfl) (by kernel_rfl) (fun _ _ _ h => h) (by rfl) ?y1_4 (O.sel []) ?r1_4
      case y1_4 =>
        intro WW hSw
        (go_simp) <;> (with_reducible rfl)
      case' r1_4 =>
        try simp only [Act.put, List.setIfInBounds_toArray, List.set_cons_zero, List.set_cons_succ]
      apply cutT1
      case main =>
        intro hT1_0
        apply cutT0
        case main =>
          intro hT1_1
          refine wpAnyH_ready (rs := [4, 5]) (by kernel_rfl) (by simp) ?_
          refine consH rfl (fun K hK => ?_) ?_
          · have cs := O.facts
            simp only [factsP, cellsP, roomP, foots_cons, foots_nil, foots_append, foot_pt, ptb, ptb_mapA, foot_mapA, factsP_mapA, foot_bun, List.append_nil, List.nil_append, List.cons_append, List.nodup_cons, List.nodup_nil, List.mem_cons, List.not_mem_nil, List.mem_singleton, List.forall_mem_cons, not_or, not_false_eq_true, and_true, true_and, or_false, false_or, forall_eq_or_imp, forall_eq, implies_true, Nat.zero_add, Nat.reduceAdd, and_assoc, ptb_listA, factsP_listA, refL, rowCells] at cs
            go_simp
            apply Mem.atK
            case h => repeat' (first | (with_reducible exact O) | (with_reducible apply Mem.drew) | (with_reducible apply Mem.drewN) | (with_reducible apply Mem.ext) | (with_reducible apply Mem.alloc) | (with_reducible apply Mem.setCell) | (simp only [ptb, ptb_upd, foots_cons, List.mem_cons, World.size_alloc, size_ext, World.size_setCell, true_or, or_true, eq_self_iff_true]))
            intro w1_5 O'
            (try clear O)
            have O := O'
            clear O'
            (first | simp only [sel, rst, List.cons_append, List.nil_append, World.size_alloc, size_ext, World.size_setCell, size_setMap, World.size_drew, size_drewN, upd, List.set_cons_zero, List.set_cons_succ, if_true, reduceIte, not_false_eq_true, cs] at O | simp only [sel, rst, List.cons_append, List.nil_append, World.size_alloc, size_ext, World.size_setCell, size_setMap, World.size_drew, size_drewN, upd, List.set_cons_zero, List.set_cons_succ, if_true, reduceIte, not_false_eq_true] at O | skip)
            (try clear cs)
            (try clear v1)
            (try clear v2)
            (try clear v3)
            refine hK.out _ _ (O.sel []) (fun _ => ?_)
            clear hK K
            refine wpAnyH_ready (rs := [5]) (by kernel_rfl) (by simp) ?_
            refine consH rfl (fun K hK => ?_) AllReadyH.nil
            have cs := O.facts
            simp only [factsP, cellsP, roomP, foots_cons, foots_nil, foots_append, foot_pt, ptb, ptb_mapA, foot_mapA, factsP_mapA, foot_bun, List.append_nil, List.nil_append, List.cons_append, List.nodup_cons, List.nodup_nil, List.mem_cons, List.not_mem_nil, List.mem_singleton, List.forall_mem_cons, not_or, not_false_eq_true, and_true, true_and, or_false, false_or, forall_eq_or_imp, forall_eq, implies_true, Nat.zero_add, Nat.reduceAdd, and_assoc, ptb_listA, factsP_listA, refL, rowCells] at cs
            go_simp
            apply Mem.atK
            case h => repeat' (first | (with_reducible exact O) | (with_reducible apply Mem.drew) | (with_reducible apply Mem.drewN) | (with_reducible apply Mem.ext) | (with_reducible apply Mem.alloc) | (with_reducible apply Mem.setCell) | (simp only [ptb, ptb_upd, foots_cons, List.mem_cons, World.size_alloc, size_ext, World.size_setCell, true_or, or_true, eq_self_iff_true]))
            intro w1_6 O'
            (try clear O)
            have O := O'
            clear O'
            (first | simp only [sel, rst, List.cons_append, List.nil_append, World.size_alloc, size_ext, World.size_setCell, size_setMap, World.size_drew, size_drewN, upd, List.set_cons_zero, List.set_cons_succ, if_true, reduceIte, not_false_eq_true, cs] at O | simp only [sel, rst, List.cons_append, List.nil_append, World.size_alloc, size_ext, World.size_setCell, size_setMap, World.size_drew, size_drewN, upd, List.set_cons_zero, List.set_cons_succ, if_true, reduceIte, not_false_eq_true] at O | skip)
            (try clear cs)
            (try clear v1)
            (try clear v2)
            (try clear v3)
            refine hK.out _ _ (O.sel []) (fun _ => ?_)
            clear hK K
            refine takeH (i := 6) (v := ?v1_7) rfl (by kernel_rfl) (by kernel_rfl) (by kernel_rfl) (fun _ _ _ h => h) (by rfl) ?y1_7 (O.sel []) ?r1_7
            case y1_7 =>
              intro WW hSw
              (go_simp) <;> (with_reducible rfl)
            case' r1_7 =>
              try simp only [Act.put, List.setIfInBounds_toArray, List.set_cons_zero, List.set_cons_succ]
            revert O
            exact hT1_1.out  w1_6
          refine consH rfl (fun K hK => ?_) ?_
          · have cs := O.facts
            simp only [factsP, cellsP, roomP, foots_cons, foots_nil, foots_append, foot_pt, ptb, ptb_mapA, foot_mapA, factsP_mapA, foot_bun, List.append_nil, List.nil_append, List.cons_append, List.nodup_cons, List.nodup_nil, List.mem_cons, List.not_mem_nil, List.mem_singleton, List.forall_mem_cons, not_or, not_false_eq_true, and_true, true_and, or_false, false_or, forall_eq_or_imp, forall_eq, implies_true, Nat.zero_add, Nat.reduceAdd, and_assoc, ptb_listA, factsP_listA, refL, rowCells] at cs
            go_simp
            apply Mem.atK
            case h => repeat' (first | (with_reducible exact O) | (with_reducible apply Mem.drew) | (with_reducible apply Mem.drewN) | (with_reducible apply Mem.ext) | (with_reducible apply Mem.alloc) | (with_reducible apply Mem.setCell) | (simp only [ptb, ptb_upd, foots_cons, List.mem_cons, World.size_alloc, size_ext, World.size_setCell, true_or, or_true, eq_self_iff_true]))
            intro w1_8 O'
            (try clear O)
            have O := O'
            clear O'
            (first | simp only [sel, rst, List.cons_append, List.nil_append, World.size_alloc, size_ext, World.size_setCell, size_setMap, World.size_drew, size_drewN, upd, List.set_cons_zero, List.set_cons_succ, if_true, reduceIte, not_false_eq_true, cs] at O | simp only [sel, rst, List.cons_append, List.nil_append, World.size_alloc, size_ext, World.size_setCell, size_setMap, World.size_drew, size_drewN, upd, List.set_cons_zero, List.set_cons_succ, if_true, reduceIte, not_false_eq_true] at O | skip)
            (try clear cs)
            (try clear v1)
            (try clear v2)
            (try clear v3)
            refine hK.out _ _ (O.sel []) (fun _ => ?_)
            clear hK K
            refine takeH (i := 6) (v := ?v1_9) rfl (by kernel_rfl) (by kernel_rfl) (by kernel_rfl) (fun _ _ _ h => h) (by rfl) ?y1_9 (O.sel []) ?r1_9
            case y1_9 =>
              intro WW hSw
              (go_simp) <;> (with_reducible rfl)
            case' r1_9 =>
              try simp only [Act.put, List.setIfInBounds_toArray, List.set_cons_zero, List.set_cons_succ]
            refine wpAnyH_ready (rs := [4, 7]) (by kernel_rfl) (by simp) ?_
            refine consH rfl (fun K hK => ?_) ?_
            · have cs := O.facts
              simp only [factsP, cellsP, roomP, foots_cons, foots_nil, foots_append, foot_pt, ptb, ptb_mapA, foot_mapA, factsP_mapA, foot_bun, List.append_nil, List.nil_append, List.cons_append, List.nodup_cons, List.nodup_nil, List.mem_cons, List.not_mem_nil, List.mem_singleton, List.forall_mem_cons, not_or, not_false_eq_true, and_true, true_and, or_false, false_or, forall_eq_or_imp, forall_eq, implies_true, Nat.zero_add, Nat.reduceAdd, and_assoc, ptb_listA, factsP_listA, refL, rowCells] at cs
              go_simp
              apply Mem.atK
              case h => repeat' (first | (with_reducible exact O) | (with_reducible apply Mem.drew) | (with_reducible apply Mem.drewN) | (with_reducible apply Mem.ext) | (with_reducible apply Mem.alloc) | (with_reducible apply Mem.setCell) | (simp only [ptb, ptb_upd, foots_cons, List.mem_cons, World.size_alloc, size_ext, World.size_setCell, true_or, or_true, eq_self_iff_true]))
              intro w1_10 O'
              (try clear O)
              have O := O'
              clear O'
              (first | simp only [sel, rst, List.cons_append, List.nil_append, World.size_alloc, size_ext, World.size_setCell, size_setMap, World.size_drew, size_drewN, upd, List.set_cons_zero, List.set_cons_succ, if_true, reduceIte, not_false_eq_true, cs] at O | simp only [sel, rst, List.cons_append, List.nil_append, World.size_alloc, size_ext, World.size_setCell, size_setMap, World.size_drew, size_drewN, upd, List.set_cons_zero, List.set_cons_succ, if_true, reduceIte, not_false_eq_true] at O | skip)
              (try clear cs)
              (try clear v1)
              (try clear v2)
              (try clear v3)
              refine hK.out _ _ (O.sel []) (fun _ => ?_)
              clear hK K
              revert O
              exact hT1_1.out  w1_10
            refine consH rfl (fun K hK => ?_) ?_
            · have cs := O.facts
              simp only [factsP, cellsP, roomP, foots_cons, foots_nil, foots_append, foot_pt, ptb, ptb_mapA, foot_mapA, factsP_mapA, foot_bun, List.append_nil, List.nil_append, List.cons_append, List.nodup_cons, List.nodup_nil, List.mem_cons, List.not_mem_nil, List.mem_singleton, List.forall_mem_cons, not_or, not_false_eq_true, and_true, true_and, or_false, false_or, forall_eq_or_imp, forall_eq, implies_true, Nat.zero_add, Nat.reduceAdd, and_assoc, ptb_listA, factsP_listA, refL, rowCells] at cs
              go_simp
              apply Mem.atK
              case h => repeat' (first | (with_reducible exact O) | (with_reducible apply Mem.drew) | (with_reducible apply Mem.drewN) | (with_reducible apply Mem.ext) | (with_reducible apply Mem.alloc) | (with_reducible apply Mem.setCell) | (simp only [ptb, ptb_upd, foots_cons, List.mem_cons, World.size_alloc, size_ext, World.size_setCell, true_or, or_true, eq_self_iff_true]))
              intro w1_11 O'
              (try clear O)
              have O := O'
              clear O'
              (first | simp only [sel, rst, List.cons_append, List.nil_append, World.size_alloc, size_ext, World.size_setCell, size_setMap, World.size_drew, size_drewN, upd, List.set_cons_zero, List.set_cons_succ, if_true, reduceIte, not_false_eq_true, cs] at O | simp only [sel, rst, List.cons_append, List.nil_append, World.size_alloc, size_ext, World.size_setCell, size_setMap, World.size_drew, size_drewN, upd, List.set_cons_zero, List.set_cons_succ, if_true, reduceIte, not_false_eq_true] at O | skip)
              (try clear cs)
              (try clear v1)
              (try clear v2)
              (try clear v3)
              generalize w1_8.heap.size = p1_12 at O ⊢
              refine hK.out _ _ (O.sel [false]) (fun _ => ?_)
              clear hK K
              refine wpAnyH_ready (rs := [4]) (by kernel_rfl) (by simp) ?_
              refine consH rfl (fun K hK => ?_) AllReadyH.nil
              have cs := O.facts
              simp only [factsP, cellsP, roomP, foots_cons, foots_nil, foots_append, foot_pt, ptb, ptb_mapA, foot_mapA, factsP_mapA, foot_bun, List.append_nil, List.nil_append, List.cons_append, List.nodup_cons, List.nodup_nil, List.mem_cons, List.not_mem_nil, List.mem_singleton, List.forall_mem_cons, not_or, not_false_eq_true, and_true, true_and, or_false, false_or, forall_eq_or_imp, forall_eq, implies_true, Nat.zero_add, Nat.reduceAdd, and_assoc, ptb_listA, factsP_listA, refL, rowCells] at cs
              go_simp
              apply Mem.atK
              case h => repeat' (first | (with_reducible exact O) | (with_reducible apply Mem.drew) | (with_reducible apply Mem.drewN) | (with_reducible apply Mem.ext) | (with_reducible apply Mem.alloc) | (with_reducible apply Mem.setCell) | (simp only [ptb, ptb_upd, foots_cons, List.mem_cons, World.size_alloc, size_ext, World.size_setCell, true_or, or_true, eq_self_iff_true]))
              intro w1_13 O'
              (try clear O)
              have O := O'
              clear O'
              (first | simp only [sel, rst, List.cons_append, List.nil_append, World.size_alloc, size_ext, World.size_setCell, size_setMap, World.size_drew, size_drewN, upd, List.set_cons_zero, List.set_cons_succ, if_true, reduceIte, not_false_eq_true, cs] at O | simp only [sel, rst, List.cons_append, List.nil_append, World.size_alloc, size_ext, World.size_setCell, size_setMap, World.size_drew, size_drewN, upd, List.set_cons_zero, List.set_cons_succ, if_true, reduceIte, not_false_eq_true] at O | skip)
              (try clear cs)
              (try clear v1)
              (try clear v2)
              (try clear v3)
              refine hK.out _ _ (O.sel [false]) (fun _ => ?_)
              clear hK K
              revert O
              exact hT1_0.out p1_12 w1_13
            exact AllReadyH.nil
          exact AllReadyH.nil
        case' tail =>
          intro w1_14 O
          refine wpAnyH_ready (rs := [7]) (by kernel_rfl) (by simp) ?_
          refine consH rfl (fun K hK => ?_) AllReadyH.nil
          have cs := O.facts
          simp only [factsP, cellsP, roomP, foots_cons, foots_nil, foots_append, foot_pt, ptb, ptb_mapA, foot_mapA, factsP_mapA, foot_bun, List.append_nil, List.nil_append, List.cons_append, List.nodup_cons, List.nodup_nil, List.mem_cons, List.not_mem_nil, List.mem_singleton, List.forall_mem_cons, not_or, not_false_eq_true, and_true, true_and, or_false, false_or, forall_eq_or_imp, forall_eq, implies_true, Nat.zero_add, Nat.reduceAdd, and_assoc, ptb_listA, factsP_listA, refL, rowCells] at cs
          go_simp
          apply Mem.atK
          case h => repeat' (first | (with_reducible exact O) | (with_reducible apply Mem.drew) | (with_reducible apply Mem.drewN) | (with_reducible apply Mem.ext) | (with_reducible apply Mem.alloc) | (with_reducible apply Mem.setCell) | (simp only [ptb, ptb_upd, foots_cons, List.mem_cons, World.size_alloc, size_ext, World.size_setCell, true_or, or_true, eq_self_iff_true]))
          intro w1_15 O'
          (try clear O)
          have O := O'
          clear O'
          (first | simp only [sel, rst, List.cons_append, List.nil_append, World.size_alloc, size_ext, World.size_setCell, size_setMap, World.size_drew, size_drewN, upd, List.set_cons_zero, List.set_cons_succ, if_true, reduceIte, not_false_eq_true, cs] at O | simp only [sel, rst, List.cons_append, List.nil_append, World.size_alloc, size_ext, World.size_setCell, size_setMap, World.size_drew, size_drewN, upd, List.set_cons_zero, List.set_cons_succ, if_true, reduceIte, not_false_eq_true] at O | skip)
          (try clear cs)
          (try clear v1)
          (try clear v2)
          (try clear v3)
          generalize w1_14.heap.size = p1_16 at O ⊢
          refine hK.out _ _ (O.sel [false]) (fun _ => ?_)
          clear hK K
          revert O
          exact hT1_0.out p1_16 w1_15
      case' tail =>
        intro q1_17 w1_18 O
      refine wpAnyH_ready (rs := [8]) (by kernel_rfl) (by simp) ?_
      refine consH rfl (fun K hK => ?_) AllReadyH.nil
      have cs := O.facts
      simp only [factsP, cellsP, roomP, foots_cons, foots_nil, foots_append, foot_pt, ptb, ptb_mapA, foot_mapA, factsP_mapA, foot_bun, List.append_nil, List.nil_append, List.cons_append, List.nodup_cons, List.nodup_nil, List.mem_cons, List.not_mem_nil, List.mem_singleton, List.forall_mem_cons, not_or, not_false_eq_true, and_true, true_and, or_false, false_or, forall_eq_or_imp, forall_eq, implies_true, Nat.zero_add, Nat.reduceAdd, and_assoc, ptb_listA, factsP_listA, refL, rowCells] at cs
      (try clear cs)
      (try clear v1)
      (try clear v2)
      (try clear v3)
      refine if_app_row (O.front1 [false, false, false, true] rfl) rfl rfl rfl rfl [(i, noRow)] rfl rfl (src_one rowCells_len (x := (i, noRow)) O (List.mem_cons_self ..)) (by simp; omega) ?_
      intro A' c' w1_19 O'
      (try clear O)
      have O := O'.unfront
      clear O'
      simp only [put, List.cons_append, List.nil_append] at O
      refine hK.out _ _ (O.sel [false]) (fun _ => ?_)
      clear hK K
      refine takeH (i := 9) (v := ?v1_20) rfl (by kernel_rfl) (by kernel_rfl) (by kernel_rfl) (fun _ _ _ h => h) (by rfl) ?y1_20 (O.sel [false]) ?r1_20
      case y1_20 =>
        intro WW hSw
        (go_simp) <;> (with_reducible rfl)
      case' r1_20 =>
        try simp only [Act.put, List.setIfInBounds_toArray, List.set_cons_zero, List.set_cons_succ]
      refine takeH (i := 10) (v := ?v1_21) rfl (by kernel_rfl) (by kernel_rfl) (by kernel_rfl) (fun _ _ _ h => h) (by rfl) ?y1_21 (O.sel [false]) ?r1_21
      case y1_21 =>
        intro WW hSw
        (go_simp) <;> (with_reducible rfl)
      case' r1_21 =>
        try simp only [Act.put, List.setIfInBounds_toArray, List.set_cons_zero, List.set_cons_succ]
      refine wpAnyH_ready (rs := [11]) (by kernel_rfl) (by simp) ?_
      refine consH rfl (fun K hK => ?_) AllReadyH.nil
      have cs := O.facts
      simp only [factsP, cellsP, roomP, foots_cons, foots_nil, foots_append, foot_pt, ptb, ptb_mapA, foot_mapA, factsP_mapA, foot_bun, List.append_nil, List.nil_append, List.cons_append, List.nodup_cons, List.nodup_nil, List.mem_cons, List.not_mem_nil, List.mem_singleton, List.forall_mem_cons, not_or, not_false_eq_true, and_true, true_and, or_false, false_or, forall_eq_or_imp, forall_eq, implies_true, Nat.zero_add, Nat.reduceAdd, and_assoc, ptb_listA, factsP_listA, refL, rowCells] at cs
      go_simp
      apply Mem.atK
      case h => repeat' (first | (with_reducible exact O) | (with_reducible apply Mem.drew) | (with_reducible apply Mem.drewN) | (with_reducible apply Mem.ext) | (with_reducible apply Mem.alloc) | (with_reducible apply Mem.setCell) | (simp only [ptb, ptb_upd, foots_cons, List.mem_cons, World.size_alloc, size_ext, World.size_setCell, true_or, or_true, eq_self_iff_true]))
      intro w1_22 O'
      (try clear O)
      have O := O'
      clear O'
      (first | simp only [sel, rst, List.cons_append, List.nil_append, World.size_alloc, size_ext, World.size_setCell, size_setMap, World.size_drew, size_drewN, upd, List.set_cons_zero, List.set_cons_succ, if_true, reduceIte, not_false_eq_true, cs] at O | simp only [sel, rst, List.cons_append, List.nil_append, World.size_alloc, size_ext, World.size_setCell, size_setMap, World.size_drew, size_drewN, upd, List.set_cons_zero, List.set_cons_succ, if_true, reduceIte, not_false_eq_true] at O | skip)
      (try clear cs)
      (try clear v1)
      (try clear v2)
      (try clear v3)
      refine hK.out _ _ (O.sel [false]) (fun _ => ?_)
      clear hK K
      refine wpAnyH_done (by kernel_rfl) ?_ _
      have cs := O.facts
      simp only [factsP, cellsP, roomP, foots_cons, foots_nil, foots_append, foot_pt, ptb, ptb_mapA, foot_mapA, factsP_mapA, foot_bun, List.append_nil, List.nil_append, List.cons_append, List.nodup_cons, List.nodup_nil, List.mem_cons, List.not_mem_nil, List.mem_singleton, List.forall_mem_cons, not_or, not_false_eq_true, and_true, true_and, or_false, false_or, forall_eq_or_imp, forall_eq, implies_true, Nat.zero_add, Nat.reduceAdd, and_assoc, ptb_listA, factsP_listA, refL, rowCells] at cs
      go_wp2_with fail
      go_ret
      refine ⟨by simp, A', c', ?_⟩
      have O2 := O.sel [false, false, true, true]
      simp only [sel] at O2
      simpa [refL] using O2
    · have hvv : v = (-1, m) := by rw [HV.out]; simp [rowR, hf, hm]
      subst hvv
      clear HV hf hkf
      have hmt : decide ((m.length : Int) < most) = false := by simp; omega
      go_enter Try.func28, Try.ntmps28
      have cs := O.facts
      simp only [factsP, cellsP, roomP, foots_cons, foots_nil, foots_append, foot_pt, ptb, ptb_mapA, foot_mapA, factsP_mapA, foot_bun, List.append_nil, List.nil_append, List.cons_append, List.nodup_cons, List.nodup_nil, List.mem_cons, List.not_mem_nil, List.mem_singleton, List.forall_mem_cons, not_or, not_false_eq_true, and_true, true_and, or_false, false_or, forall_eq_or_imp, forall_eq, implies_true, Nat.zero_add, Nat.reduceAdd, and_assoc, ptb_listA, factsP_listA, refL, rowCells] at cs
      go_wp2_with fail
      first | apply Mem.atCall | apply Mem.atCode | apply Mem.atList
      case h => repeat' (first | (with_reducible exact O) | (with_reducible apply Mem.drew) | (with_reducible apply Mem.drewN) | (with_reducible apply Mem.ext) | (with_reducible apply Mem.alloc) | (with_reducible apply Mem.setCell) | (simp only [ptb, ptb_upd, foots_cons, List.mem_cons, World.size_alloc, size_ext, World.size_setCell, true_or, or_true, eq_self_iff_true]))
      case' k =>
        intro w1 O'
        (try clear O)
        have O := O'
        clear O'
        (first | simp only [sel, rst, List.cons_append, List.nil_append, World.size_alloc, size_ext, World.size_setCell, size_setMap, World.size_drew, size_drewN, upd, List.set_cons_zero, List.set_cons_succ, if_true, reduceIte, not_false_eq_true, cs] at O | simp only [sel, rst, List.cons_append, List.nil_append, World.size_alloc, size_ext, World.size_setCell, size_setMap, World.size_drew, size_drewN, upd, List.set_cons_zero, List.set_cons_succ, if_true, reduceIte, not_false_eq_true] at O | skip)
        (try clear cs)
        (try clear v1)
        (try clear v2)
        (try clear v3)
      refine (C.out w1 (O.pre [false, true, true])).mono ?_
      rintro e w2 ⟨rfl, o⟩
      replace O := O.callp [] o
      clear o
      simp only [put, List.cons_append, List.nil_append] at O
      have cs := O.facts
      simp only [factsP, cellsP, roomP, foots_cons, foots_nil, foots_append, foot_pt, ptb, ptb_mapA, foot_mapA, factsP_mapA, foot_bun, List.append_nil, List.nil_append, List.cons_append, List.nodup_cons, List.nodup_nil, List.mem_cons, List.not_mem_nil, List.mem_singleton, List.forall_mem_cons, not_or, not_false_eq_true, and_true, true_and, or_false, false_or, forall_eq_or_imp, forall_eq, implies_true, Nat.zero_add, Nat.reduceAdd, and_assoc, ptb_listA, factsP_listA, refL, rowCells] at cs
      go_wp2_with fail
      apply region_quiet_mem (by kernel_rfl) (by kernel_rfl)
      case O => repeat' (first | (with_reducible exact O) | (with_reducible apply Mem.drew) | (with_reducible apply Mem.drewN) | (with_reducible apply Mem.ext) | (with_reducible apply Mem.alloc) | (with_reducible apply Mem.setCell) | (simp only [ptb, ptb_upd, foots_cons, List.mem_cons, World.size_alloc, size_ext, World.size_setCell, true_or, or_true, eq_self_iff_true]))
      case' h =>
        intro w3 O'
        (try clear O)
        have O := O'
        clear O'
        (first | simp only [sel, rst, List.cons_append, List.nil_append, World.size_alloc, size_ext, World.size_setCell, size_setMap, World.size_drew, size_drewN, upd, List.set_cons_zero, List.set_cons_succ, if_true, reduceIte, not_false_eq_true, cs] at O | simp only [sel, rst, List.cons_append, List.nil_append, World.size_alloc, size_ext, World.size_setCell, size_setMap, World.size_drew, size_drewN, upd, List.set_cons_zero, List.set_cons_succ, if_true, reduceIte, not_false_eq_true] at O | skip)
        (try clear cs)
        (try clear v1)
        (try clear v2)
        (try clear v3)
      have cs := O.facts
      simp only [factsP, cellsP, roomP, foots_cons, foots_nil, foots_append, foot_pt, ptb, ptb_mapA, foot_mapA, factsP_mapA, foot_bun, List.append_nil, List.nil_append, List.cons_append, List.nodup_cons, List.nodup_nil, List.mem_cons, List.not_mem_nil, List.mem_singleton, List.forall_mem_cons, not_or, not_false_eq_true, and_true, true_and, or_false, false_or, forall_eq_or_imp, forall_eq, implies_true, Nat.zero_add, Nat.reduceAdd, and_assoc, ptb_listA, factsP_listA, refL, rowCells] at cs
      repeat (go_big_quiet_step ((fail)))
      refine wpQuiet_nil ?_
      intro w4 hq
      (try clear cs)
      (try clear v1)
      (try clear v2)
      (try clear v3)
      replace O := O.qext hq
      clear hq
      have cs := O.facts
      simp only [factsP, cellsP, roomP, foots_cons, foots_nil, foots_append, foot_pt, ptb, ptb_mapA, foot_mapA, factsP_mapA, foot_bun, List.append_nil, List.nil_append, List.cons_append, List.nodup_cons, List.nodup_nil, List.mem_cons, List.not_mem_nil, List.mem_singleton, List.forall_mem_cons, not_or, not_false_eq_true, and_true, true_and, or_false, false_or, forall_eq_or_imp, forall_eq, implies_true, Nat.zero_add, Nat.reduceAdd, and_assoc, ptb_listA, factsP_listA, refL, rowCells] at cs
      go_wp2_with fail
      go_ret
      exact ⟨rfl, A, c, O.sel [false, true, true]⟩

/-- what the row of an instance comes to -/
theorem row_plain (most : Int) (m : Rows10) (i : Inst) (b : Ballot) (hb : 0 ≤ b.r ∧ 0 ≤ b.n) (hn : (keysOf m).Nodup) :
    (rowR most m i = (-1, m) ∧ promise10 most m i b = (noRow, false, 101, m)) ∨
    ∃ (k : Nat) (r : Row) (m0 : Rows10), rowR most m i = ((k : Int), m0) ∧ m0[k]? = some (i, r) ∧ m0.length ≤ m.length + 1 ∧ (m0.length : Int) ≤ max most m.length ∧ (∀ row', mset m i row' = m0.set k (i, row')) ∧ (less b r.p = true → m0 = m) ∧
      promise10 most m i b = if less b r.p then (r, false, 0, m) else (⟨b, r.a⟩, true, 0, m0.set k (i, ⟨b, r.a⟩)) := by
  by_cases hf : findI m i < m.length
  · obtain ⟨r, h1, h2⟩ := findI_some hf
    have hs : ∀ row', mset m i row' = m.set (findI m i) (i, row') := fun row' => mset_at hn h1
    refine .inr ⟨findI m i, r, m, by simp [rowR, hf], h1, by omega, by omega, hs, fun _ => rfl, ?_⟩
    unfold promise10
    rw [h2]
    simp only [hs]
  · have hl : findI m i = m.length := by have := findI_le m i; omega
    have hg := findI_none.1 hl
    by_cases hm : (m.length : Int) < most
    · have hs : ∀ row', mset m i row' = (m ++ [(i, noRow)]).set m.length (i, row') := fun row' => by rw [mset_new hg, List.set_append_right _ _ (Nat.le_refl _)]; simp
      have hz : less b noB = false := less_zero hb
      refine .inr ⟨m.length, noRow, m ++ [(i, noRow)], by simp [rowR, hf, hm], by simp, by simp, by simp; omega, hs, fun h => by rw [show noRow.p = noB from rfl, hz] at h; simp at h, ?_⟩
      unfold promise10
      rw [hg]
      have : ¬ most ≤ (m.length : Int) := by omega
      simp only [this, if_false, show noRow.p = noB from rfl, hz, Bool.false_eq_true, hs]
      rfl
    · refine .inl ⟨by simp [rowR, hf, hm], ?_⟩
      unfold promise10
      rw [hg]
      have : most ≤ (m.length : Int) := by omega
      simp only [this, if_true]
end Go.Proofs.Ytbpanhmpffjmfaa
