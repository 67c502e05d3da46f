/- WALK: a manager's ballot, by two acceptors, of a vote. -/
import Derived.Test.YtplliabmnhigbaaAgrA19
set_option linter.unusedVariables false
set_option linter.unusedSimpArgs false
namespace Go.Proofs.Ytplliabmnhigbaa
open Go.RowKit Go.Tk
theorem _root_.Go.Tk.Mem.frOf {F : List Nat} {w w' W : World} {L : List Asn} (O : Mem w F w' L) (bs : List Bool) (f : Fr (foots (Tk.sel bs L)) w' W) : Fr F w W :=
  O.fr.trans f (fun b hb => (O.sel bs).mine b hb)
/-- the tables in memory are the world's -/
structure Tabs (ts : List TabM) (pt : Nat → Option Addr) (acc : Nat → Rows10) : Prop where
  len : ts.length = 3
  at_ : ∀ k T, ts[k]? = some T → pt k = some ⟨T.tb, 0, none⟩ ∧ T.m = acc k
theorem Tabs.get {ts : List TabM} {pt : Nat → Option Addr} {acc : Nat → Rows10} (h : Tabs ts pt acc) {k : Nat} (hk : k < 3) : ∃ T, ts[k]? = some T ∧ pt k = some ⟨T.tb, 0, none⟩ ∧ T.m = acc k := by
  have hl : k < ts.length := by rw [h.len]; exact hk
  exact ⟨ts[k], List.getElem?_eq_getElem hl, h.at_ k _ (List.getElem?_eq_getElem hl)⟩
theorem Tabs.set {ts : List TabM} {pt : Nat → Option Addr} {acc : Nat → Rows10} (h : Tabs ts pt acc) {k : Nat} {T : TabM} (hk : ts[k]? = some T) (m : Rows10) : Tabs (ts.set k ⟨T.tb, T.mb, m⟩) pt (upd3 acc k m) := by
  refine ⟨by rw [List.length_set]; exact h.len, fun j U hU => ?_⟩
  by_cases e : k = j
  · subst e
    rw [set_eq (List.getElem?_eq_some_iff.1 hk).1] at hU
    injection hU with hU
    subst hU
    exact ⟨(h.at_ k T hk).1, (upd3_same _ _ _).symm⟩
  · rw [set_ne e] at hU
    rw [upd3_ne _ _ (Ne.symm e)]
    exact h.at_ j U hU
theorem prep_rows {w : Wd} {n : Nat} (h : WdOk w n) (hn : 2 * n + 1 < 4096) (i : Inst) (by_ : Int) (out : Nat) {k : Nat} (hk : k < 3) :
    prepare10 4096 ((prepTo w.next i (w.ballot by_) out k).acc k) i (w.ballot by_) = (aOf (mget (w.acc k) i), w.ballot by_, true, 0, mset (w.acc k) i ⟨w.ballot by_, aOf (mget (w.acc k) i)⟩) := by
  rw [prepTo_later _ _ _ _ k k (Nat.le_refl k)]
  have hlen : ((w.acc k).length : Int) + 1 < 4096 := by have := h.len k hk; omega
  have hb : less (w.ballot by_) (pOf (mget (w.acc k) i)) = false := by
    have := (h.one i).p k hk
    exact decide_eq_false (by simp only [Wd.ballot]; omega)
  exact (prop_at .empty hlen hb).1
theorem q_less (a b : Ballot) (w : World) : Calls Try.prog 55 #[a.val, b.val] w (fun e w' => e = .returned (.bool (less a b)) ∧ Mem w [] w' []) :=
  (acc_Less a b w).mono fun e w' ⟨he, y, hy⟩ => ⟨he, by rw [hy]; exact Mem.begin.ext⟩
def takeCells (s : ByteArray × Ballot × Bool) : List Value := [.int .u32 s.2.1.r, .int .u8 s.2.1.n]
set_option maxRecDepth 100000 in
set_option maxHeartbeats 16000000 in
theorem w_propose (w : World) (xb : Nat) (wcs : List Value) (id : Int) (bx ox tn tc : Nat) (pt pm : Nat → Option Addr) (own : Nat → Nat → ByteArray) (LA : Option Addr) (lc : Nat) (wd : Wd) (n : Nat) (hok : WdOk wd n) (hn : 2 * n + 1 < 4096) (hrd : 0 ≤ wd.round ∧ wd.round ≤ n)
    (hc : Wc wcs id (some ⟨bx, ox, none⟩) tn tc pt pm own wd.round LA wd.l.length lc) (ts : List TabM) (hts : Tabs ts pt wd.acc)
    (h : Pre w [.pt xb wcs 83, fam tabF ts, hdA LA lc wd.l]) (i r out by_ : Nat) (bk : Int)
    (hx : ∀ W, Fr (foots [.pt xb wcs 83, fam tabF ts, hdA LA lc wd.l]) w W → roomP bx W.heap.size ∧ W.cell? ⟨bx, ox + i * 8, none⟩ = some (.int .i64 bk)) (hi : i < tn) (ho : out < 3) (hby : by_ < 3) (hwf : (⟨id, bk, r, 0⟩ : Inst).wf) (hl : wd.l.length ≤ 1000) :
    Calls Try.prog 28 #[.pointer (some ⟨xb, 0, none⟩), .int .i64 (i : Int), .int .i64 (r : Int), .int .i64 (out : Int), .int .i64 (by_ : Int)] w (fun e w' => e = .returned (.tuple #[]) ∧
      ∃ cs' LA' lc' ts', Wc cs' id (some ⟨bx, ox, none⟩) tn tc pt pm own (wd.prop ⟨id, bk, r, 0⟩ out by_).round LA' (wd.prop ⟨id, bk, r, 0⟩ out by_).l.length lc' ∧ Tabs ts' pt (wd.prop ⟨id, bk, r, 0⟩ out by_).acc ∧
        Mem w (foots [.pt xb wcs 83, fam tabF ts, hdA LA lc wd.l]) w' [.pt xb cs' 83, fam tabF ts', hdA LA' lc' (wd.prop ⟨id, bk, r, 0⟩ out by_).l]) := by
  have O : Mem w (foots [.pt xb wcs 83, fam tabF ts, hdA LA lc wd.l]) w [.pt xb wcs 83, fam tabF ts, hdA LA lc wd.l] := h
  generalize foots [.pt xb wcs 83, fam tabF ts, hdA LA lc wd.l] = fp at O hx ⊢
  clear h
  have HX := Lib.hid hx
  have HC := Lib.hid (hc.setR (wd.round + 1))
  have HT := Lib.hid hts
  have HL := Lib.hid hl
  have HW := Lib.hid hwf
  have HI := Lib.hid hi
  have PR := Lib.hid (fun k (hk : k < 3) => prep_rows hok hn ⟨id, bk, r, 0⟩ by_ out hk)
  have CL := Lib.hid (fun (W : World) (a b : Ballot) => q_less a b W)
  have hii : (i : Int) < tn := by omega
  have c0 : wcs[0]? = some (.int .u64 id) := hc.id
  have c5 := hc.items
  have c44 := hc.round
  have hx44 : 44 < wcs.length := by rw [hc.len]; omega
  have hrr : IntKind.u32.wrap (wd.round + 1) = wd.round + 1 := by simp [IntKind.wrap, IntKind.signed, IntKind.bits]; omega
  have hbw : IntKind.u8.wrap (by_ : Int) = (by_ : Int) := by simp [IntKind.wrap, IntKind.signed, IntKind.bits]; omega
  clear hx hc hts hl hwf hi hok
  have hP : wd.prop ⟨id, bk, r, 0⟩ out by_ = accTo (prepTo wd.next ⟨id, bk, r, 0⟩ ⟨wd.round + 1, by_⟩ out 3) ⟨id, bk, r, 0⟩ ⟨wd.round + 1, by_⟩ (takeTo wd ⟨id, bk, r, 0⟩ out 3).1 out 3 := rfl
  simp only [hP]
  clear hP
  have PT := Lib.hid (fun (W : World) (L : List Asn) (O : Mem w fp W L) (hm : Asn.pt xb wcs 83 ∈ L) => And.intro (ptCell O hm c0) (And.intro (ptCell O hm c5).2 ((ptCell O hm c44).2)))
  skip
  go_enter Try.func28, Try.ntmps28
  have cs := O.facts
  try simp only [factsP, cellsP, roomP, foots_cons, foots_nil, foots_append, foot_pt, ptb, ptb_mapA, foot_mapA, factsP_mapA, foot_bun, List.append_nil, List.nil_append, List.cons_append, List.nodup_cons, List.nodup_nil, List.mem_cons, List.not_mem_nil, List.mem_singleton, List.forall_mem_cons, not_or, not_false_eq_true, and_true, true_and, or_false, false_or, forall_eq_or_imp, forall_eq, implies_true, Nat.zero_add, Nat.reduceAdd, and_assoc, ptb_listA, factsP_listA, upd_listA, ptb_tabA, factsP_tabA, upd_tabA, Nat.mul_one, hdCells, ptb_fam, factsP_fam, upd_fam] at cs
  have v1 := HX.out _ O.fr
  try simp only [cellsQ, roomP, and_assoc, and_true, true_and, Nat.add_zero, Nat.zero_add, Nat.reduceAdd, factsP, cellsP, roomP, foots_cons, foots_nil, foots_append, foot_pt, ptb, ptb_mapA, foot_mapA, factsP_mapA, foot_bun, List.append_nil, List.nil_append, List.cons_append, List.nodup_cons, List.nodup_nil, List.mem_cons, List.not_mem_nil, List.mem_singleton, List.forall_mem_cons, not_or, not_false_eq_true, and_true, true_and, or_false, false_or, forall_eq_or_imp, forall_eq, implies_true, Nat.zero_add, Nat.reduceAdd, and_assoc, ptb_listA, factsP_listA, upd_listA, ptb_tabA, factsP_tabA, upd_tabA, Nat.mul_one, hdCells, ptb_fam, factsP_fam, upd_fam] at v1
  have v2 := PT.out _ _ O (by simp [Tk.sel])
  try simp only [cellsQ, roomP, and_assoc, and_true, true_and, Nat.add_zero, Nat.zero_add, Nat.reduceAdd, factsP, cellsP, roomP, foots_cons, foots_nil, foots_append, foot_pt, ptb, ptb_mapA, foot_mapA, factsP_mapA, foot_bun, List.append_nil, List.nil_append, List.cons_append, List.nodup_cons, List.nodup_nil, List.mem_cons, List.not_mem_nil, List.mem_singleton, List.forall_mem_cons, not_or, not_false_eq_true, and_true, true_and, or_false, false_or, forall_eq_or_imp, forall_eq, implies_true, Nat.zero_add, Nat.reduceAdd, and_assoc, ptb_listA, factsP_listA, upd_listA, ptb_tabA, factsP_tabA, upd_tabA, Nat.mul_one, hdCells, ptb_fam, factsP_fam, upd_fam] at v2
  go_upto_region 1 with fail
  first | apply Mem.atCall | apply Mem.atCode | apply Mem.atList
  case h => repeat' (first | (with_reducible exact O) | (with_reducible apply Mem.drew) | (with_reducible apply Mem.drewN) | (with_reducible apply Mem.ext) | (with_reducible apply Mem.alloc) | (with_reducible apply Mem.setCell) | (simp only [ptb, ptb_upd, foots_cons, List.mem_cons, World.size_alloc, size_ext, World.size_setCell, true_or, or_true, eq_self_iff_true, ptb_listA, ptb_tabA, ptb_fam]))
  case' k =>
    intro w1 O'
    (try clear O)
    have O := O'
    clear O'
    (first | simp only [sel, rst, List.cons_append, List.nil_append, World.size_alloc, size_ext, World.size_setCell, size_setMap, World.size_drew, size_drewN, upd, List.set_cons_zero, List.set_cons_succ, if_true, if_false, reduceIte, not_false_eq_true, ne_lt0, ne_lt1, ne_lt2, ne_lt3, ne_lt4, upd_listA, upd_tabA, upd_fam, cs] at O | simp only [sel, rst, List.cons_append, List.nil_append, World.size_alloc, size_ext, World.size_setCell, size_setMap, World.size_drew, size_drewN, upd, List.set_cons_zero, List.set_cons_succ, if_true, if_false, reduceIte, not_false_eq_true, ne_lt0, ne_lt1, ne_lt2, ne_lt3, ne_lt4, upd_listA, upd_tabA, upd_fam] at O | skip)
    (try clear cs)
    (try clear v1)
    (try clear v2)
    (try clear v3)
  obtain ⟨ws, hws⟩ : ∃ ws, wcs.set 44 (.int .u32 (wd.round + 1)) = ws := ⟨_, rfl⟩
  rw [hws] at O HC
  clear hws PT c0 c5 c44 hx44
  have c0 : ws[0]? = some (.int .u64 id) := HC.out.id
  have c5 := HC.out.items
  have c44 := HC.out.round
  have PT := Lib.hid (fun (W : World) (L : List Asn) (O : Mem w fp W L) (hm : Asn.pt xb ws 83 ∈ L) => And.intro (ptCell O hm c0) (And.intro (ptCell O hm c5).2 (ptCell O hm c44).2))
  clear c0 c5 c44
  skip
  have cs := O.facts
  try simp only [factsP, cellsP, roomP, foots_cons, foots_nil, foots_append, foot_pt, ptb, ptb_mapA, foot_mapA, factsP_mapA, foot_bun, List.append_nil, List.nil_append, List.cons_append, List.nodup_cons, List.nodup_nil, List.mem_cons, List.not_mem_nil, List.mem_singleton, List.forall_mem_cons, not_or, not_false_eq_true, and_true, true_and, or_false, false_or, forall_eq_or_imp, forall_eq, implies_true, Nat.zero_add, Nat.reduceAdd, and_assoc, ptb_listA, factsP_listA, upd_listA, ptb_tabA, factsP_tabA, upd_tabA, Nat.mul_one, hdCells, ptb_fam, factsP_fam, upd_fam] at cs
  have v1 := HX.out _ O.fr
  try simp only [cellsQ, roomP, and_assoc, and_true, true_and, Nat.add_zero, Nat.zero_add, Nat.reduceAdd, factsP, cellsP, roomP, foots_cons, foots_nil, foots_append, foot_pt, ptb, ptb_mapA, foot_mapA, factsP_mapA, foot_bun, List.append_nil, List.nil_append, List.cons_append, List.nodup_cons, List.nodup_nil, List.mem_cons, List.not_mem_nil, List.mem_singleton, List.forall_mem_cons, not_or, not_false_eq_true, and_true, true_and, or_false, false_or, forall_eq_or_imp, forall_eq, implies_true, Nat.zero_add, Nat.reduceAdd, and_assoc, ptb_listA, factsP_listA, upd_listA, ptb_tabA, factsP_tabA, upd_tabA, Nat.mul_one, hdCells, ptb_fam, factsP_fam, upd_fam] at v1
  have v2 := PT.out _ _ O (by simp [Tk.sel])
  try simp only [cellsQ, roomP, and_assoc, and_true, true_and, Nat.add_zero, Nat.zero_add, Nat.reduceAdd, factsP, cellsP, roomP, foots_cons, foots_nil, foots_append, foot_pt, ptb, ptb_mapA, foot_mapA, factsP_mapA, foot_bun, List.append_nil, List.nil_append, List.cons_append, List.nodup_cons, List.nodup_nil, List.mem_cons, List.not_mem_nil, List.mem_singleton, List.forall_mem_cons, not_or, not_false_eq_true, and_true, true_and, or_false, false_or, forall_eq_or_imp, forall_eq, implies_true, Nat.zero_add, Nat.reduceAdd, and_assoc, ptb_listA, factsP_listA, upd_listA, ptb_tabA, factsP_tabA, upd_tabA, Nat.mul_one, hdCells, ptb_fam, factsP_fam, upd_fam] at v2
  go_upto_region 2 with fail
  first | apply Mem.atCall | apply Mem.atCode | apply Mem.atList
  case h => repeat' (first | (with_reducible exact O) | (with_reducible apply Mem.drew) | (with_reducible apply Mem.drewN) | (with_reducible apply Mem.ext) | (with_reducible apply Mem.alloc) | (with_reducible apply Mem.setCell) | (simp only [ptb, ptb_upd, foots_cons, List.mem_cons, World.size_alloc, size_ext, World.size_setCell, true_or, or_true, eq_self_iff_true, ptb_listA, ptb_tabA, ptb_fam]))
  case' k =>
    intro w2 O'
    (try clear O)
    have O := O'
    clear O'
    (first | simp only [sel, rst, List.cons_append, List.nil_append, World.size_alloc, size_ext, World.size_setCell, size_setMap, World.size_drew, size_drewN, upd, List.set_cons_zero, List.set_cons_succ, if_true, if_false, reduceIte, not_false_eq_true, ne_lt0, ne_lt1, ne_lt2, ne_lt3, ne_lt4, upd_listA, upd_tabA, upd_fam, cs] at O | simp only [sel, rst, List.cons_append, List.nil_append, World.size_alloc, size_ext, World.size_setCell, size_setMap, World.size_drew, size_drewN, upd, List.set_cons_zero, List.set_cons_succ, if_true, if_false, reduceIte, not_false_eq_true, ne_lt0, ne_lt1, ne_lt2, ne_lt3, ne_lt4, upd_listA, upd_tabA, upd_fam] at O | skip)
    (try clear cs)
    (try clear v1)
    (try clear v2)
    (try clear v3)
  generalize w1.heap.size = bb at O ⊢
  apply region_held_mem [false, true] (by kernel_rfl)
  case O => repeat' (first | (with_reducible exact O) | (with_reducible apply Mem.drew) | (with_reducible apply Mem.drewN) | (with_reducible apply Mem.ext) | (with_reducible apply Mem.alloc) | (with_reducible apply Mem.setCell) | (simp only [ptb, ptb_upd, foots_cons, List.mem_cons, World.size_alloc, size_ext, World.size_setCell, true_or, or_true, eq_self_iff_true, ptb_listA, ptb_tabA, ptb_fam]))
  case' h =>
    intro wr1 O'
    (try clear O)
    have O := O'
    clear O'
    (first | simp only [sel, rst, List.cons_append, List.nil_append, World.size_alloc, size_ext, World.size_setCell, size_setMap, World.size_drew, size_drewN, upd, List.set_cons_zero, List.set_cons_succ, if_true, if_false, reduceIte, not_false_eq_true, ne_lt0, ne_lt1, ne_lt2, ne_lt3, ne_lt4, upd_listA, upd_tabA, upd_fam, cs] at O | simp only [sel, rst, List.cons_append, List.nil_append, World.size_alloc, size_ext, World.size_setCell, size_setMap, World.size_drew, size_drewN, upd, List.set_cons_zero, List.set_cons_succ, if_true, if_false, reduceIte, not_false_eq_true, ne_lt0, ne_lt1, ne_lt2, ne_lt3, ne_lt4, upd_listA, upd_tabA, upd_fam] at O | skip)
    (try clear cs)
    (try clear v1)
    (try clear v2)
    (try clear v3)
  refine takeH (i := 0) (v := ?v1_1) rfl (by kernel_rfl) (by kernel_rfl) (by kernel_rfl) (fun _ _ _ h => h) (by rfl) ?y1_1 (O.sel [false, true]) ?r1_1
  case y1_1 =>
    intro WW hSw
    (go_simp) <;> (with_reducible rfl)
  case' r1_1 =>
    try simp only [Act.put, List.setIfInBounds_toArray, List.set_cons_zero, List.set_cons_succ]
  refine takeH (i := 1) (v := ?v1_2) rfl (by kernel_rfl) (by kernel_rfl) (by kernel_rfl) (fun _ _ _ h => h) (by rfl) ?y1_2 (O.sel [false, true]) ?r1_2
  case y1_2 =>
    intro WW hSw
    (go_simp) <;> (with_reducible rfl)
  case' r1_2 =>
    try simp only [Act.put, List.setIfInBounds_toArray, List.set_cons_zero, List.set_cons_succ]
  refine takeH (i := 2) (v := ?v1_3) rfl (by kernel_rfl) (by kernel_rfl) (by kernel_rfl) (fun _ _ _ h => h) (by rfl) ?y1_3 (O.sel [false, true]) ?r1_3
  case y1_3 =>
    intro WW hSw
    (go_simp) <;> (with_reducible rfl)
  case' r1_3 =>
    try simp only [Act.put, List.setIfInBounds_toArray, List.set_cons_zero, List.set_cons_succ]
  refine takeH (i := 3) (v := ?v1_4) rfl (by kernel_rfl) (by kernel_rfl) (by kernel_rfl) (fun _ _ _ h => h) (by rfl) ?y1_4 (O.sel [false, true]) ?r1_4
  case y1_4 =>
    intro WW hSw
    (go_simp) <;> (with_reducible rfl)
  case' r1_4 =>
    try simp only [Act.put, List.setIfInBounds_toArray, List.set_cons_zero, List.set_cons_succ]
  refine takeH (i := 4) (v := ?v1_5) rfl (by kernel_rfl) (by kernel_rfl) (by kernel_rfl) (fun _ _ _ h => h) (by rfl) ?y1_5 (O.sel [false, true]) ?r1_5
  case y1_5 =>
    intro WW hSw
    replace hSw : Mem _ _ WW _ := hSw
    have cs := hSw.facts
    simp only [sel, factsP, cellsP, roomP, foots_cons, foots_nil, foots_append, foot_pt, ptb, ptb_mapA, foot_mapA, factsP_mapA, foot_bun, List.append_nil, List.nil_append, List.cons_append, List.nodup_cons, List.nodup_nil, List.mem_cons, List.not_mem_nil, List.mem_singleton, List.forall_mem_cons, not_or, not_false_eq_true, and_true, true_and, or_false, false_or, forall_eq_or_imp, forall_eq, implies_true, Nat.zero_add, Nat.reduceAdd, and_assoc, ptb_listA, factsP_listA, upd_listA, ptb_tabA, factsP_tabA, upd_tabA, Nat.mul_one, hdCells, ptb_fam, factsP_fam, upd_fam] at cs
    have v1 := HX.out _ hSw.fr
    try simp only [cellsQ, roomP, and_assoc, and_true, true_and, Nat.add_zero, Nat.zero_add, Nat.reduceAdd, factsP, cellsP, roomP, foots_cons, foots_nil, foots_append, foot_pt, ptb, ptb_mapA, foot_mapA, factsP_mapA, foot_bun, List.append_nil, List.nil_append, List.cons_append, List.nodup_cons, List.nodup_nil, List.mem_cons, List.not_mem_nil, List.mem_singleton, List.forall_mem_cons, not_or, not_false_eq_true, and_true, true_and, or_false, false_or, forall_eq_or_imp, forall_eq, implies_true, Nat.zero_add, Nat.reduceAdd, and_assoc, ptb_listA, factsP_listA, upd_listA, ptb_tabA, factsP_tabA, upd_tabA, Nat.mul_one, hdCells, ptb_fam, factsP_fam, upd_fam] at v1
    have v2 := PT.out _ _ hSw (by simp [Tk.sel])
    try simp only [cellsQ, roomP, and_assoc, and_true, true_and, Nat.add_zero, Nat.zero_add, Nat.reduceAdd, factsP, cellsP, roomP, foots_cons, foots_nil, foots_append, foot_pt, ptb, ptb_mapA, foot_mapA, factsP_mapA, foot_bun, List.append_nil, List.nil_append, List.cons_append, List.nodup_cons, List.nodup_nil, List.mem_cons, List.not_mem_nil, List.mem_singleton, List.forall_mem_cons, not_or, not_false_eq_true, and_true, true_and, or_false, false_or, forall_eq_or_imp, forall_eq, implies_true, Nat.zero_add, Nat.reduceAdd, and_assoc, ptb_listA, factsP_listA, upd_listA, ptb_tabA, factsP_tabA, upd_tabA, Nat.mul_one, hdCells, ptb_fam, factsP_fam, upd_fam] at v2
    (go_simp) <;> (with_reducible rfl)
  case' r1_5 =>
    try simp only [Act.put, List.setIfInBounds_toArray, List.set_cons_zero, List.set_cons_succ]
  refine takeH (i := 5) (v := ?v1_6) rfl (by kernel_rfl) (by kernel_rfl) (by kernel_rfl) (fun _ _ _ h => h) (by rfl) ?y1_6 (O.sel [false, true]) ?r1_6
  case y1_6 =>
    intro WW hSw
    (go_simp) <;> (with_reducible rfl)
  case' r1_6 =>
    try simp only [Act.put, List.setIfInBounds_toArray, List.set_cons_zero, List.set_cons_succ]
  refine takeH (i := 6) (v := ?v1_7) rfl (by kernel_rfl) (by kernel_rfl) (by kernel_rfl) (fun _ _ _ h => h) (by rfl) ?y1_7 (O.sel [false, true]) ?r1_7
  case y1_7 =>
    intro WW hSw
    (go_simp) <;> (with_reducible rfl)
  case' r1_7 =>
    try simp only [Act.put, List.setIfInBounds_toArray, List.set_cons_zero, List.set_cons_succ]
  refine takeH (i := 7) (v := ?v1_8) rfl (by kernel_rfl) (by kernel_rfl) (by kernel_rfl) (fun _ _ _ h => h) (by rfl) ?y1_8 (O.sel [false, true]) ?r1_8
  case y1_8 =>
    intro WW hSw
    (go_simp) <;> (with_reducible rfl)
  case' r1_8 =>
    try simp only [Act.put, List.setIfInBounds_toArray, List.set_cons_zero, List.set_cons_succ]
  refine takeH (i := 8) (v := ?v1_9) rfl (by kernel_rfl) (by kernel_rfl) (by kernel_rfl) (fun _ _ _ h => h) (by rfl) ?y1_9 (O.sel [false, true]) ?r1_9
  case y1_9 =>
    intro WW hSw
    (go_simp) <;> (with_reducible rfl)
  case' r1_9 =>
    try simp only [Act.put, List.setIfInBounds_toArray, List.set_cons_zero, List.set_cons_succ]
  refine takeH (i := 9) (v := ?v1_10) rfl (by kernel_rfl) (by kernel_rfl) (by kernel_rfl) (fun _ _ _ h => h) (by rfl) ?y1_10 (O.sel [false, true]) ?r1_10
  case y1_10 =>
    intro WW hSw
    replace hSw : Mem _ _ WW _ := hSw
    have cs := hSw.facts
    simp only [sel, factsP, cellsP, roomP, foots_cons, foots_nil, foots_append, foot_pt, ptb, ptb_mapA, foot_mapA, factsP_mapA, foot_bun, List.append_nil, List.nil_append, List.cons_append, List.nodup_cons, List.nodup_nil, List.mem_cons, List.not_mem_nil, List.mem_singleton, List.forall_mem_cons, not_or, not_false_eq_true, and_true, true_and, or_false, false_or, forall_eq_or_imp, forall_eq, implies_true, Nat.zero_add, Nat.reduceAdd, and_assoc, ptb_listA, factsP_listA, upd_listA, ptb_tabA, factsP_tabA, upd_tabA, Nat.mul_one, hdCells, ptb_fam, factsP_fam, upd_fam] at cs
    have v1 := HX.out _ hSw.fr
    try simp only [cellsQ, roomP, and_assoc, and_true, true_and, Nat.add_zero, Nat.zero_add, Nat.reduceAdd, factsP, cellsP, roomP, foots_cons, foots_nil, foots_append, foot_pt, ptb, ptb_mapA, foot_mapA, factsP_mapA, foot_bun, List.append_nil, List.nil_append, List.cons_append, List.nodup_cons, List.nodup_nil, List.mem_cons, List.not_mem_nil, List.mem_singleton, List.forall_mem_cons, not_or, not_false_eq_true, and_true, true_and, or_false, false_or, forall_eq_or_imp, forall_eq, implies_true, Nat.zero_add, Nat.reduceAdd, and_assoc, ptb_listA, factsP_listA, upd_listA, ptb_tabA, factsP_tabA, upd_tabA, Nat.mul_one, hdCells, ptb_fam, factsP_fam, upd_fam] at v1
    have v2 := PT.out _ _ hSw (by simp [Tk.sel])
    try simp only [cellsQ, roomP, and_assoc, and_true, true_and, Nat.add_zero, Nat.zero_add, Nat.reduceAdd, factsP, cellsP, roomP, foots_cons, foots_nil, foots_append, foot_pt, ptb, ptb_mapA, foot_mapA, factsP_mapA, foot_bun, List.append_nil, List.nil_append, List.cons_append, List.nodup_cons, List.nodup_nil, List.mem_cons, List.not_mem_nil, List.mem_singleton, List.forall_mem_cons, not_or, not_false_eq_true, and_true, true_and, or_false, false_or, forall_eq_or_imp, forall_eq, implies_true, Nat.zero_add, Nat.reduceAdd, and_assoc, ptb_listA, factsP_listA, upd_listA, ptb_tabA, factsP_tabA, upd_tabA, Nat.mul_one, hdCells, ptb_fam, factsP_fam, upd_fam] at v2
    (go_simp) <;> (with_reducible rfl)
  case' r1_10 =>
    try simp only [Act.put, List.setIfInBounds_toArray, List.set_cons_zero, List.set_cons_succ]
  refine takeH (i := 10) (v := ?v1_11) rfl (by kernel_rfl) (by kernel_rfl) (by kernel_rfl) (fun _ _ _ h => h) (by rfl) ?y1_11 (O.sel [false, true]) ?r1_11
  case y1_11 =>
    intro WW hSw
    (go_simp) <;> (with_reducible rfl)
  case' r1_11 =>
    try simp only [Act.put, List.setIfInBounds_toArray, List.set_cons_zero, List.set_cons_succ]
  refine takeH (i := 11) (v := ?v1_12) rfl (by kernel_rfl) (by kernel_rfl) (by kernel_rfl) (fun _ _ _ h => h) (by rfl) ?y1_12 (O.sel [false, true]) ?r1_12
  case y1_12 =>
    intro WW hSw
    replace hSw : Mem _ _ WW _ := hSw
    have cs := hSw.facts
    simp only [sel, factsP, cellsP, roomP, foots_cons, foots_nil, foots_append, foot_pt, ptb, ptb_mapA, foot_mapA, factsP_mapA, foot_bun, List.append_nil, List.nil_append, List.cons_append, List.nodup_cons, List.nodup_nil, List.mem_cons, List.not_mem_nil, List.mem_singleton, List.forall_mem_cons, not_or, not_false_eq_true, and_true, true_and, or_false, false_or, forall_eq_or_imp, forall_eq, implies_true, Nat.zero_add, Nat.reduceAdd, and_assoc, ptb_listA, factsP_listA, upd_listA, ptb_tabA, factsP_tabA, upd_tabA, Nat.mul_one, hdCells, ptb_fam, factsP_fam, upd_fam] at cs
    have v1 := HX.out _ hSw.fr
    try simp only [cellsQ, roomP, and_assoc, and_true, true_and, Nat.add_zero, Nat.zero_add, Nat.reduceAdd, factsP, cellsP, roomP, foots_cons, foots_nil, foots_append, foot_pt, ptb, ptb_mapA, foot_mapA, factsP_mapA, foot_bun, List.append_nil, List.nil_append, List.cons_append, List.nodup_cons, List.nodup_nil, List.mem_cons, List.not_mem_nil, List.mem_singleton, List.forall_mem_cons, not_or, not_false_eq_true, and_true, true_and, or_false, false_or, forall_eq_or_imp, forall_eq, implies_true, Nat.zero_add, Nat.reduceAdd, and_assoc, ptb_listA, factsP_listA, upd_listA, ptb_tabA, factsP_tabA, upd_tabA, Nat.mul_one, hdCells, ptb_fam, factsP_fam, upd_fam] at v1
    have v2 := PT.out _ _ hSw (by simp [Tk.sel])
    try simp only [cellsQ, roomP, and_assoc, and_true, true_and, Nat.add_zero, Nat.zero_add, Nat.reduceAdd, factsP, cellsP, roomP, foots_cons, foots_nil, foots_append, foot_pt, ptb, ptb_mapA, foot_mapA, factsP_mapA, foot_bun, List.append_nil, List.nil_append, List.cons_append, List.nodup_cons, List.nodup_nil, List.mem_cons, List.not_mem_nil, List.mem_singleton, List.forall_mem_cons, not_or, not_false_eq_true, and_true, true_and, or_false, false_or, forall_eq_or_imp, forall_eq, implies_true, Nat.zero_add, Nat.reduceAdd, and_assoc, ptb_listA, factsP_listA, upd_listA, ptb_tabA, factsP_tabA, upd_tabA, Nat.mul_one, hdCells, ptb_fam, factsP_fam, upd_fam] at v2
    (go_simp) <;> (with_reducible rfl)
  case' r1_12 =>
    try simp only [Act.put, List.setIfInBounds_toArray, List.set_cons_zero, List.set_cons_succ]
  refine takeH (i := 12) (v := ?v1_13) rfl (by kernel_rfl) (by kernel_rfl) (by kernel_rfl) (fun _ _ _ h => h) (by rfl) ?y1_13 (O.sel [false, true]) ?r1_13
  case y1_13 =>
    intro WW hSw
    (go_simp) <;> (with_reducible rfl)
  case' r1_13 =>
    try simp only [Act.put, List.setIfInBounds_toArray, List.set_cons_zero, List.set_cons_succ]
  refine takeH (i := 13) (v := ?v1_14) rfl (by kernel_rfl) (by kernel_rfl) (by kernel_rfl) (fun _ _ _ h => h) (by rfl) ?y1_14 (O.sel [false, true]) ?r1_14
  case y1_14 =>
    intro WW hSw
    replace hSw : Mem _ _ WW _ := hSw
    have cs := hSw.facts
    simp only [sel, factsP, cellsP, roomP, foots_cons, foots_nil, foots_append, foot_pt, ptb, ptb_mapA, foot_mapA, factsP_mapA, foot_bun, List.append_nil, List.nil_append, List.cons_append, List.nodup_cons, List.nodup_nil, List.mem_cons, List.not_mem_nil, List.mem_singleton, List.forall_mem_cons, not_or, not_false_eq_true, and_true, true_and, or_false, false_or, forall_eq_or_imp, forall_eq, implies_true, Nat.zero_add, Nat.reduceAdd, and_assoc, ptb_listA, factsP_listA, upd_listA, ptb_tabA, factsP_tabA, upd_tabA, Nat.mul_one, hdCells, ptb_fam, factsP_fam, upd_fam] at cs
    have v1 := HX.out _ hSw.fr
    try simp only [cellsQ, roomP, and_assoc, and_true, true_and, Nat.add_zero, Nat.zero_add, Nat.reduceAdd, factsP, cellsP, roomP, foots_cons, foots_nil, foots_append, foot_pt, ptb, ptb_mapA, foot_mapA, factsP_mapA, foot_bun, List.append_nil, List.nil_append, List.cons_append, List.nodup_cons, List.nodup_nil, List.mem_cons, List.not_mem_nil, List.mem_singleton, List.forall_mem_cons, not_or, not_false_eq_true, and_true, true_and, or_false, false_or, forall_eq_or_imp, forall_eq, implies_true, Nat.zero_add, Nat.reduceAdd, and_assoc, ptb_listA, factsP_listA, upd_listA, ptb_tabA, factsP_tabA, upd_tabA, Nat.mul_one, hdCells, ptb_fam, factsP_fam, upd_fam] at v1
    have v2 := PT.out _ _ hSw (by simp [Tk.sel])
    try simp only [cellsQ, roomP, and_assoc, and_true, true_and, Nat.add_zero, Nat.zero_add, Nat.reduceAdd, factsP, cellsP, roomP, foots_cons, foots_nil, foots_append, foot_pt, ptb, ptb_mapA, foot_mapA, factsP_mapA, foot_bun, List.append_nil, List.nil_append, List.cons_append, List.nodup_cons, List.nodup_nil, List.mem_cons, List.not_mem_nil, List.mem_singleton, List.forall_mem_cons, not_or, not_false_eq_true, and_true, true_and, or_false, false_or, forall_eq_or_imp, forall_eq, implies_true, Nat.zero_add, Nat.reduceAdd, and_assoc, ptb_listA, factsP_listA, upd_listA, ptb_tabA, factsP_tabA, upd_tabA, Nat.mul_one, hdCells, ptb_fam, factsP_fam, upd_fam] at v2
    (go_simp) <;> (with_reducible rfl)
  case' r1_14 =>
    try simp only [Act.put, List.setIfInBounds_toArray, List.set_cons_zero, List.set_cons_succ]
  refine takeH (i := 14) (v := ?v1_15) rfl (by kernel_rfl) (by kernel_rfl) (by kernel_rfl) (fun _ _ _ h => h) (by rfl) ?y1_15 (O.sel [false, true]) ?r1_15
  case y1_15 =>
    intro WW hSw
    (go_simp) <;> (with_reducible rfl)
  case' r1_15 =>
    try simp only [Act.put, List.setIfInBounds_toArray, List.set_cons_zero, List.set_cons_succ]
  refine takeH (i := 15) (v := ?v1_16) rfl (by kernel_rfl) (by kernel_rfl) (by kernel_rfl) (fun _ _ _ h => h) (by rfl) ?y1_16 (O.sel [false, true]) ?r1_16
  case y1_16 =>
    intro WW hSw
    (go_simp) <;> (with_reducible rfl)
  case' r1_16 =>
    try simp only [Act.put, List.setIfInBounds_toArray, List.set_cons_zero, List.set_cons_succ]
  refine wpAnyH_ready (rs := [16]) (by kernel_rfl) (by simp) ?_
  refine consH rfl (fun K hK => ?_) AllReadyH.nil
  have cs := O.facts
  simp only [factsP, cellsP, roomP, foots_cons, foots_nil, foots_append, foot_pt, ptb, ptb_mapA, foot_mapA, factsP_mapA, foot_bun, List.append_nil, List.nil_append, List.cons_append, List.nodup_cons, List.nodup_nil, List.mem_cons, List.not_mem_nil, List.mem_singleton, List.forall_mem_cons, not_or, not_false_eq_true, and_true, true_and, or_false, false_or, forall_eq_or_imp, forall_eq, implies_true, Nat.zero_add, Nat.reduceAdd, and_assoc, ptb_listA, factsP_listA, upd_listA, ptb_tabA, factsP_tabA, upd_tabA, Nat.mul_one, hdCells, ptb_fam, factsP_fam, upd_fam] at cs
  have v1 := HX.out _ O.fr
  try simp only [cellsQ, roomP, and_assoc, and_true, true_and, Nat.add_zero, Nat.zero_add, Nat.reduceAdd, factsP, cellsP, roomP, foots_cons, foots_nil, foots_append, foot_pt, ptb, ptb_mapA, foot_mapA, factsP_mapA, foot_bun, List.append_nil, List.nil_append, List.cons_append, List.nodup_cons, List.nodup_nil, List.mem_cons, List.not_mem_nil, List.mem_singleton, List.forall_mem_cons, not_or, not_false_eq_true, and_true, true_and, or_false, false_or, forall_eq_or_imp, forall_eq, implies_true, Nat.zero_add, Nat.reduceAdd, and_assoc, ptb_listA, factsP_listA, upd_listA, ptb_tabA, factsP_tabA, upd_tabA, Nat.mul_one, hdCells, ptb_fam, factsP_fam, upd_fam] at v1
  have v2 := PT.out _ _ O (by simp [Tk.sel])
  try simp only [cellsQ, roomP, and_assoc, and_true, true_and, Nat.add_zero, Nat.zero_add, Nat.reduceAdd, factsP, cellsP, roomP, foots_cons, foots_nil, foots_append, foot_pt, ptb, ptb_mapA, foot_mapA, factsP_mapA, foot_bun, List.append_nil, List.nil_append, List.cons_append, List.nodup_cons, List.nodup_nil, List.mem_cons, List.not_mem_nil, List.mem_singleton, List.forall_mem_cons, not_or, not_false_eq_true, and_true, true_and, or_false, false_or, forall_eq_or_imp, forall_eq, implies_true, Nat.zero_add, Nat.reduceAdd, and_assoc, ptb_listA, factsP_listA, upd_listA, ptb_tabA, factsP_tabA, upd_tabA, Nat.mul_one, hdCells, ptb_fam, factsP_fam, upd_fam] at v2
  go_simp
  apply Mem.atK
  case h => repeat' (first | (with_reducible exact O) | (with_reducible apply Mem.drew) | (with_reducible apply Mem.drewN) | (with_reducible apply Mem.ext) | (with_reducible apply Mem.alloc) | (with_reducible apply Mem.setCell) | (simp only [ptb, ptb_upd, foots_cons, List.mem_cons, World.size_alloc, size_ext, World.size_setCell, true_or, or_true, eq_self_iff_true, ptb_listA, ptb_tabA, ptb_fam]))
  intro w1_17 O'
  (try clear O)
  have O := O'
  clear O'
  (first | simp only [sel, rst, List.cons_append, List.nil_append, World.size_alloc, size_ext, World.size_setCell, size_setMap, World.size_drew, size_drewN, upd, List.set_cons_zero, List.set_cons_succ, if_true, if_false, reduceIte, not_false_eq_true, ne_lt0, ne_lt1, ne_lt2, ne_lt3, ne_lt4, upd_listA, upd_tabA, upd_fam, cs] at O | simp only [sel, rst, List.cons_append, List.nil_append, World.size_alloc, size_ext, World.size_setCell, size_setMap, World.size_drew, size_drewN, upd, List.set_cons_zero, List.set_cons_succ, if_true, if_false, reduceIte, not_false_eq_true, ne_lt0, ne_lt1, ne_lt2, ne_lt3, ne_lt4, upd_listA, upd_tabA, upd_fam] at O | skip)
  (try clear cs)
  (try clear v1)
  (try clear v2)
  (try clear v3)
  generalize wr1.heap.size = p1_18 at O ⊢
  refine hK.out _ _ (O.sel [false, false, true]) (fun _ => ?_)
  clear hK K
  refine wpAnyH_ready (rs := [17]) (by kernel_rfl) (by simp) ?_
  refine consH rfl (fun K hK => ?_) AllReadyH.nil
  have cs := O.facts
  simp only [factsP, cellsP, roomP, foots_cons, foots_nil, foots_append, foot_pt, ptb, ptb_mapA, foot_mapA, factsP_mapA, foot_bun, List.append_nil, List.nil_append, List.cons_append, List.nodup_cons, List.nodup_nil, List.mem_cons, List.not_mem_nil, List.mem_singleton, List.forall_mem_cons, not_or, not_false_eq_true, and_true, true_and, or_false, false_or, forall_eq_or_imp, forall_eq, implies_true, Nat.zero_add, Nat.reduceAdd, and_assoc, ptb_listA, factsP_listA, upd_listA, ptb_tabA, factsP_tabA, upd_tabA, Nat.mul_one, hdCells, ptb_fam, factsP_fam, upd_fam] at cs
  have v1 := HX.out _ O.fr
  try simp only [cellsQ, roomP, and_assoc, and_true, true_and, Nat.add_zero, Nat.zero_add, Nat.reduceAdd, factsP, cellsP, roomP, foots_cons, foots_nil, foots_append, foot_pt, ptb, ptb_mapA, foot_mapA, factsP_mapA, foot_bun, List.append_nil, List.nil_append, List.cons_append, List.nodup_cons, List.nodup_nil, List.mem_cons, List.not_mem_nil, List.mem_singleton, List.forall_mem_cons, not_or, not_false_eq_true, and_true, true_and, or_false, false_or, forall_eq_or_imp, forall_eq, implies_true, Nat.zero_add, Nat.reduceAdd, and_assoc, ptb_listA, factsP_listA, upd_listA, ptb_tabA, factsP_tabA, upd_tabA, Nat.mul_one, hdCells, ptb_fam, factsP_fam, upd_fam] at v1
  have v2 := PT.out _ _ O (by simp [Tk.sel])
  try simp only [cellsQ, roomP, and_assoc, and_true, true_and, Nat.add_zero, Nat.zero_add, Nat.reduceAdd, factsP, cellsP, roomP, foots_cons, foots_nil, foots_append, foot_pt, ptb, ptb_mapA, foot_mapA, factsP_mapA, foot_bun, List.append_nil, List.nil_append, List.cons_append, List.nodup_cons, List.nodup_nil, List.mem_cons, List.not_mem_nil, List.mem_singleton, List.forall_mem_cons, not_or, not_false_eq_true, and_true, true_and, or_false, false_or, forall_eq_or_imp, forall_eq, implies_true, Nat.zero_add, Nat.reduceAdd, and_assoc, ptb_listA, factsP_listA, upd_listA, ptb_tabA, factsP_tabA, upd_tabA, Nat.mul_one, hdCells, ptb_fam, factsP_fam, upd_fam] at v2
  go_simp
  apply Mem.atK
  case h => repeat' (first | (with_reducible exact O) | (with_reducible apply Mem.drew) | (with_reducible apply Mem.drewN) | (with_reducible apply Mem.ext) | (with_reducible apply Mem.alloc) | (with_reducible apply Mem.setCell) | (simp only [ptb, ptb_upd, foots_cons, List.mem_cons, World.size_alloc, size_ext, World.size_setCell, true_or, or_true, eq_self_iff_true, ptb_listA, ptb_tabA, ptb_fam]))
  intro w1_19 O'
  (try clear O)
  have O := O'
  clear O'
  (first | simp only [sel, rst, List.cons_append, List.nil_append, World.size_alloc, size_ext, World.size_setCell, size_setMap, World.size_drew, size_drewN, upd, List.set_cons_zero, List.set_cons_succ, if_true, if_false, reduceIte, not_false_eq_true, ne_lt0, ne_lt1, ne_lt2, ne_lt3, ne_lt4, upd_listA, upd_tabA, upd_fam, cs] at O | simp only [sel, rst, List.cons_append, List.nil_append, World.size_alloc, size_ext, World.size_setCell, size_setMap, World.size_drew, size_drewN, upd, List.set_cons_zero, List.set_cons_succ, if_true, if_false, reduceIte, not_false_eq_true, ne_lt0, ne_lt1, ne_lt2, ne_lt3, ne_lt4, upd_listA, upd_tabA, upd_fam] at O | skip)
  (try clear cs)
  (try clear v1)
  (try clear v2)
  (try clear v3)
  refine hK.out _ _ (O.sel [false, false, true]) (fun _ => ?_)
  clear hK K
  refine wpAnyH_done (by kernel_rfl) ?_ _
  have cs := O.facts
  try simp only [factsP, cellsP, roomP, foots_cons, foots_nil, foots_append, foot_pt, ptb, ptb_mapA, foot_mapA, factsP_mapA, foot_bun, List.append_nil, List.nil_append, List.cons_append, List.nodup_cons, List.nodup_nil, List.mem_cons, List.not_mem_nil, List.mem_singleton, List.forall_mem_cons, not_or, not_false_eq_true, and_true, true_and, or_false, false_or, forall_eq_or_imp, forall_eq, implies_true, Nat.zero_add, Nat.reduceAdd, and_assoc, ptb_listA, factsP_listA, upd_listA, ptb_tabA, factsP_tabA, upd_tabA, Nat.mul_one, hdCells, ptb_fam, factsP_fam, upd_fam] at cs
  have v1 := HX.out _ O.fr
  try simp only [cellsQ, roomP, and_assoc, and_true, true_and, Nat.add_zero, Nat.zero_add, Nat.reduceAdd, factsP, cellsP, roomP, foots_cons, foots_nil, foots_append, foot_pt, ptb, ptb_mapA, foot_mapA, factsP_mapA, foot_bun, List.append_nil, List.nil_append, List.cons_append, List.nodup_cons, List.nodup_nil, List.mem_cons, List.not_mem_nil, List.mem_singleton, List.forall_mem_cons, not_or, not_false_eq_true, and_true, true_and, or_false, false_or, forall_eq_or_imp, forall_eq, implies_true, Nat.zero_add, Nat.reduceAdd, and_assoc, ptb_listA, factsP_listA, upd_listA, ptb_tabA, factsP_tabA, upd_tabA, Nat.mul_one, hdCells, ptb_fam, factsP_fam, upd_fam] at v1
  have v2 := PT.out _ _ O (by simp [Tk.sel])
  try simp only [cellsQ, roomP, and_assoc, and_true, true_and, Nat.add_zero, Nat.zero_add, Nat.reduceAdd, factsP, cellsP, roomP, foots_cons, foots_nil, foots_append, foot_pt, ptb, ptb_mapA, foot_mapA, factsP_mapA, foot_bun, List.append_nil, List.nil_append, List.cons_append, List.nodup_cons, List.nodup_nil, List.mem_cons, List.not_mem_nil, List.mem_singleton, List.forall_mem_cons, not_or, not_false_eq_true, and_true, true_and, or_false, false_or, forall_eq_or_imp, forall_eq, implies_true, Nat.zero_add, Nat.reduceAdd, and_assoc, ptb_listA, factsP_listA, upd_listA, ptb_tabA, factsP_tabA, upd_tabA, Nat.mul_one, hdCells, ptb_fam, factsP_fam, upd_fam] at v2
  go_wp2_with fail
  first | apply Mem.atCall | apply Mem.atCode | apply Mem.atList
  case h => repeat' (first | (with_reducible exact O) | (with_reducible apply Mem.drew) | (with_reducible apply Mem.drewN) | (with_reducible apply Mem.ext) | (with_reducible apply Mem.alloc) | (with_reducible apply Mem.setCell) | (simp only [ptb, ptb_upd, foots_cons, List.mem_cons, World.size_alloc, size_ext, World.size_setCell, true_or, or_true, eq_self_iff_true, ptb_listA, ptb_tabA, ptb_fam]))
  case' k =>
    intro w4 O'
    (try clear O)
    have O := O'
    clear O'
    (first | simp only [sel, rst, List.cons_append, List.nil_append, World.size_alloc, size_ext, World.size_setCell, size_setMap, World.size_drew, size_drewN, upd, List.set_cons_zero, List.set_cons_succ, if_true, if_false, reduceIte, not_false_eq_true, ne_lt0, ne_lt1, ne_lt2, ne_lt3, ne_lt4, upd_listA, upd_tabA, upd_fam, cs] at O | simp only [sel, rst, List.cons_append, List.nil_append, World.size_alloc, size_ext, World.size_setCell, size_setMap, World.size_drew, size_drewN, upd, List.set_cons_zero, List.set_cons_succ, if_true, if_false, reduceIte, not_false_eq_true, ne_lt0, ne_lt1, ne_lt2, ne_lt3, ne_lt4, upd_listA, upd_tabA, upd_fam] at O | skip)
    (try clear cs)
    (try clear v1)
    (try clear v2)
    (try clear v3)
  generalize w1_19.heap.size = tb at O ⊢
  clear PT
  go_loopw [12, 14, 15] (fun s12 s14 s15 wr => ∃ (k : Nat) (ts' : List TabM), k ≤ 3 ∧ s15 = .int .i64 k ∧ s12 = .string (takeTo wd ⟨id, bk, r, 0⟩ out k).1 ∧ s14 = .bool (takeTo wd ⟨id, bk, r, 0⟩ out k).2.2 ∧ Tabs ts' pt (prepTo wd.next ⟨id, bk, r, 0⟩ ⟨wd.round + 1, by_⟩ out k).acc ∧ Mem w fp wr [.pt tb [.int .u32 (takeTo wd ⟨id, bk, r, 0⟩ out k).2.1.r, .int .u8 (takeTo wd ⟨id, bk, r, 0⟩ out k).2.1.n] 47, .pt p1_18 [.int .u64 id, .int .i64 bk, .int .i64 r, .int .u32 0] 104, .pt bb [.int .u32 (wd.round + 1), .int .u8 (by_ : Int)] 47, .pt xb ws 83, fam tabF ts', hdA LA lc wd.l]) (fun _ _ s15 _ => 3 - (intOf s15).toNat)
  case atStart => exact ⟨0, ts, by omega, rfl, rfl, rfl, HT.out, O⟩
  case round =>
    clear O
    obtain ⟨k, ts', hk3, rfl, rfl, rfl, hT, O⟩ := hrel
    have HTk := Lib.hid hT
    clear hT
    by_cases hk : k < 3
    · have hki : (k : Int) < 3 := by omega
      have hki' : ((k : Int) < 3) = True := by simp [hki]
      by_cases hko : k = out
      · have hkoi : ((k : Int) == (out : Int)) = true := by simp [hko]
        subst hko
        skip
        have cs := O.facts
        try simp only [factsP, cellsP, roomP, foots_cons, foots_nil, foots_append, foot_pt, ptb, ptb_mapA, foot_mapA, factsP_mapA, foot_bun, List.append_nil, List.nil_append, List.cons_append, List.nodup_cons, List.nodup_nil, List.mem_cons, List.not_mem_nil, List.mem_singleton, List.forall_mem_cons, not_or, not_false_eq_true, and_true, true_and, or_false, false_or, forall_eq_or_imp, forall_eq, implies_true, Nat.zero_add, Nat.reduceAdd, and_assoc, ptb_listA, factsP_listA, upd_listA, ptb_tabA, factsP_tabA, upd_tabA, Nat.mul_one, hdCells, ptb_fam, factsP_fam, upd_fam] at cs
        go_wp2_with fail
        go_roundw
        case rel =>
          exact ⟨k + 1, ts', by omega, by go_num, by simp [takeTo], by simp [takeTo], by simp [prepTo]; exact HTk.out, by simp [takeTo]; exact O⟩
        case measure => simp [intOf]; omega
      · have hkoi : ((k : Int) == (out : Int)) = false := by simp; omega
        obtain ⟨T, hTk, hTp, hTm⟩ := HTk.out.get hk
        have c6 := HC.out.acc k hk
        rw [hTp] at c6
        have c0 : ws[0]? = some (.int .u64 id) := HC.out.id
        have PT := Lib.hid (fun (W : World) (L : List Asn) (O : Mem w fp W L) (hm : Asn.pt xb ws 83 ∈ L) => And.intro (ptCell O hm c6) (ptCell O hm c0).2)
        clear c6 c0
        replace O := ((((((O).front [false, false, false, false, false, true]).front [false, false, false, false, true]).front [false, false, false, false, true]).front [false, false, false, false, true]).front [false, false, false, false, true]).front [false, false, false, false, false, true]
        simp only [Tk.sel, rst, List.cons_append, List.nil_append] at O
        replace O := O.sel [true, true, true, true, true, true]
        simp only [Tk.sel] at O
        replace O := O.famTake hTk
        have HTT := Lib.hid hTk
        have hset := HTk.out.set hTk
        obtain ⟨tbk, mbk, m⟩ := T
        simp only at hTm hTp hset
        have CP := Lib.hid (fun W (hW : Pre W [tabA tbk mbk 4096 m]) => m_Prepare W tbk mbk 4096 m ⟨id, bk, r, 0⟩ ⟨wd.round + 1, by_⟩ hW HW.out)
        have hpr := PR.out k hk
        rw [show wd.ballot (by_ : Int) = ⟨wd.round + 1, by_⟩ from rfl] at hpr
        obtain ⟨m2, hm2⟩ : ∃ m2, m2 = mset (wd.acc k) ⟨id, bk, r, 0⟩ (⟨⟨wd.round + 1, by_⟩, aOf (mget (wd.acc k) ⟨id, bk, r, 0⟩)⟩ : Row) := ⟨_, rfl⟩
        rw [← hm2] at hpr
        have HSET := Lib.hid (show Tabs (ts'.set k ⟨tbk, mbk, m2⟩) pt (prepTo wd.next ⟨id, bk, r, 0⟩ ⟨wd.round + 1, by_⟩ out (k + 1)).acc by
          have := hset m2
          simp only [prepTo, if_neg hko, Wd.prepare, hpr]
          exact this)
        have HTAKE := Lib.hid (show takeTo wd ⟨id, bk, r, 0⟩ out (k + 1) = takeV (takeTo wd ⟨id, bk, r, 0⟩ out k) (aOf (mget (wd.acc k) ⟨id, bk, r, 0⟩)) by simp only [takeTo, if_neg hko])
        rw [← hTm] at hpr
        rw [hpr] at CP
        simp only [tabF] at O
        clear hset hpr hm2 hTm hTp hTk
        generalize aOf (mget (wd.acc k) ⟨id, bk, r, 0⟩) = av at CP HTAKE
        generalize takeTo wd ⟨id, bk, r, 0⟩ out k = sv at *
        obtain ⟨ai, ⟨ar, an⟩, av⟩ := av
        obtain ⟨sv, ⟨sr, sn⟩, si⟩ := sv
        simp only [Inst.val, Ballot.val, Acc.val] at CP O
        skip
        have cs := O.facts
        try simp only [factsP, cellsP, roomP, foots_cons, foots_nil, foots_append, foot_pt, ptb, ptb_mapA, foot_mapA, factsP_mapA, foot_bun, List.append_nil, List.nil_append, List.cons_append, List.nodup_cons, List.nodup_nil, List.mem_cons, List.not_mem_nil, List.mem_singleton, List.forall_mem_cons, not_or, not_false_eq_true, and_true, true_and, or_false, false_or, forall_eq_or_imp, forall_eq, implies_true, Nat.zero_add, Nat.reduceAdd, and_assoc, ptb_listA, factsP_listA, upd_listA, ptb_tabA, factsP_tabA, upd_tabA, Nat.mul_one, hdCells, ptb_fam, factsP_fam, upd_fam] at cs
        have v1 := PT.out _ _ O (by simp [Tk.sel])
        try simp only [cellsQ, roomP, and_assoc, and_true, true_and, Nat.add_zero, Nat.zero_add, Nat.reduceAdd, factsP, cellsP, roomP, foots_cons, foots_nil, foots_append, foot_pt, ptb, ptb_mapA, foot_mapA, factsP_mapA, foot_bun, List.append_nil, List.nil_append, List.cons_append, List.nodup_cons, List.nodup_nil, List.mem_cons, List.not_mem_nil, List.mem_singleton, List.forall_mem_cons, not_or, not_false_eq_true, and_true, true_and, or_false, false_or, forall_eq_or_imp, forall_eq, implies_true, Nat.zero_add, Nat.reduceAdd, and_assoc, ptb_listA, factsP_listA, upd_listA, ptb_tabA, factsP_tabA, upd_tabA, Nat.mul_one, hdCells, ptb_fam, factsP_fam, upd_fam] at v1
        go_upto_region 10 with fail
        apply region_held_mem [false, false, false, true, true, true] (by kernel_rfl)
        case O => repeat' (first | (with_reducible exact O) | (with_reducible apply Mem.drew) | (with_reducible apply Mem.drewN) | (with_reducible apply Mem.ext) | (with_reducible apply Mem.alloc) | (with_reducible apply Mem.setCell) | (simp only [ptb, ptb_upd, foots_cons, List.mem_cons, World.size_alloc, size_ext, World.size_setCell, true_or, or_true, eq_self_iff_true, ptb_listA, ptb_tabA, ptb_fam]))
        case' h =>
          intro wr2 O'
          (try clear O)
          have O := O'
          clear O'
          (first | simp only [sel, rst, List.cons_append, List.nil_append, World.size_alloc, size_ext, World.size_setCell, size_setMap, World.size_drew, size_drewN, upd, List.set_cons_zero, List.set_cons_succ, if_true, if_false, reduceIte, not_false_eq_true, ne_lt0, ne_lt1, ne_lt2, ne_lt3, ne_lt4, upd_listA, upd_tabA, upd_fam, cs] at O | simp only [sel, rst, List.cons_append, List.nil_append, World.size_alloc, size_ext, World.size_setCell, size_setMap, World.size_drew, size_drewN, upd, List.set_cons_zero, List.set_cons_succ, if_true, if_false, reduceIte, not_false_eq_true, ne_lt0, ne_lt1, ne_lt2, ne_lt3, ne_lt4, upd_listA, upd_tabA, upd_fam] at O | skip)
          (try clear cs)
          (try clear v1)
          (try clear v2)
          (try clear v3)
        refine takeH (i := 0) (v := ?v2_1) rfl (by kernel_rfl) (by kernel_rfl) (by kernel_rfl) (fun _ _ _ h => h) (by rfl) ?y2_1 (O.sel [false, false, false, true, true, true]) ?r2_1
        case y2_1 =>
          intro WW hSw
          (go_simp) <;> (with_reducible rfl)
        case' r2_1 =>
          try simp only [Act.put, List.setIfInBounds_toArray, List.set_cons_zero, List.set_cons_succ]
        refine takeH (i := 1) (v := ?v2_2) rfl (by kernel_rfl) (by kernel_rfl) (by kernel_rfl) (fun _ _ _ h => h) (by rfl) ?y2_2 (O.sel [false, false, false, true, true, true]) ?r2_2
        case y2_2 =>
          intro WW hSw
          (go_simp) <;> (with_reducible rfl)
        case' r2_2 =>
          try simp only [Act.put, List.setIfInBounds_toArray, List.set_cons_zero, List.set_cons_succ]
        refine takeH (i := 2) (v := ?v2_3) rfl (by kernel_rfl) (by kernel_rfl) (by kernel_rfl) (fun _ _ _ h => h) (by rfl) ?y2_3 (O.sel [false, false, false, true, true, true]) ?r2_3
        case y2_3 =>
          intro WW hSw
          (go_simp) <;> (with_reducible rfl)
        case' r2_3 =>
          try simp only [Act.put, List.setIfInBounds_toArray, List.set_cons_zero, List.set_cons_succ]
        refine takeH (i := 3) (v := ?v2_4) rfl (by kernel_rfl) (by kernel_rfl) (by kernel_rfl) (fun _ _ _ h => h) (by rfl) ?y2_4 (O.sel [false, false, false, true, true, true]) ?r2_4
        case y2_4 =>
          intro WW hSw
          (go_simp) <;> (with_reducible rfl)
        case' r2_4 =>
          try simp only [Act.put, List.setIfInBounds_toArray, List.set_cons_zero, List.set_cons_succ]
        refine takeH (i := 4) (v := ?v2_5) rfl (by kernel_rfl) (by kernel_rfl) (by kernel_rfl) (fun _ _ _ h => h) (by rfl) ?y2_5 (O.sel [false, false, false, true, true, true]) ?r2_5
        case y2_5 =>
          intro WW hSw
          replace hSw : Mem _ _ WW _ := hSw
          have cs := hSw.facts
          simp only [sel, factsP, cellsP, roomP, foots_cons, foots_nil, foots_append, foot_pt, ptb, ptb_mapA, foot_mapA, factsP_mapA, foot_bun, List.append_nil, List.nil_append, List.cons_append, List.nodup_cons, List.nodup_nil, List.mem_cons, List.not_mem_nil, List.mem_singleton, List.forall_mem_cons, not_or, not_false_eq_true, and_true, true_and, or_false, false_or, forall_eq_or_imp, forall_eq, implies_true, Nat.zero_add, Nat.reduceAdd, and_assoc, ptb_listA, factsP_listA, upd_listA, ptb_tabA, factsP_tabA, upd_tabA, Nat.mul_one, hdCells, ptb_fam, factsP_fam, upd_fam] at cs
          have v1 := PT.out _ _ hSw (by simp [Tk.sel])
          try simp only [cellsQ, roomP, and_assoc, and_true, true_and, Nat.add_zero, Nat.zero_add, Nat.reduceAdd, factsP, cellsP, roomP, foots_cons, foots_nil, foots_append, foot_pt, ptb, ptb_mapA, foot_mapA, factsP_mapA, foot_bun, List.append_nil, List.nil_append, List.cons_append, List.nodup_cons, List.nodup_nil, List.mem_cons, List.not_mem_nil, List.mem_singleton, List.forall_mem_cons, not_or, not_false_eq_true, and_true, true_and, or_false, false_or, forall_eq_or_imp, forall_eq, implies_true, Nat.zero_add, Nat.reduceAdd, and_assoc, ptb_listA, factsP_listA, upd_listA, ptb_tabA, factsP_tabA, upd_tabA, Nat.mul_one, hdCells, ptb_fam, factsP_fam, upd_fam] at v1
          (go_simp) <;> (with_reducible rfl)
        case' r2_5 =>
          try simp only [Act.put, List.setIfInBounds_toArray, List.set_cons_zero, List.set_cons_succ]
        refine takeH (i := 5) (v := ?v2_6) rfl (by kernel_rfl) (by kernel_rfl) (by kernel_rfl) (fun _ _ _ h => h) (by rfl) ?y2_6 (O.sel [false, false, false, true, true, true]) ?r2_6
        case y2_6 =>
          intro WW hSw
          replace hSw : Mem _ _ WW _ := hSw
          have cs := hSw.facts
          simp only [sel, factsP, cellsP, roomP, foots_cons, foots_nil, foots_append, foot_pt, ptb, ptb_mapA, foot_mapA, factsP_mapA, foot_bun, List.append_nil, List.nil_append, List.cons_append, List.nodup_cons, List.nodup_nil, List.mem_cons, List.not_mem_nil, List.mem_singleton, List.forall_mem_cons, not_or, not_false_eq_true, and_true, true_and, or_false, false_or, forall_eq_or_imp, forall_eq, implies_true, Nat.zero_add, Nat.reduceAdd, and_assoc, ptb_listA, factsP_listA, upd_listA, ptb_tabA, factsP_tabA, upd_tabA, Nat.mul_one, hdCells, ptb_fam, factsP_fam, upd_fam] at cs
          have v1 := PT.out _ _ hSw (by simp [Tk.sel])
          try simp only [cellsQ, roomP, and_assoc, and_true, true_and, Nat.add_zero, Nat.zero_add, Nat.reduceAdd, factsP, cellsP, roomP, foots_cons, foots_nil, foots_append, foot_pt, ptb, ptb_mapA, foot_mapA, factsP_mapA, foot_bun, List.append_nil, List.nil_append, List.cons_append, List.nodup_cons, List.nodup_nil, List.mem_cons, List.not_mem_nil, List.mem_singleton, List.forall_mem_cons, not_or, not_false_eq_true, and_true, true_and, or_false, false_or, forall_eq_or_imp, forall_eq, implies_true, Nat.zero_add, Nat.reduceAdd, and_assoc, ptb_listA, factsP_listA, upd_listA, ptb_tabA, factsP_tabA, upd_tabA, Nat.mul_one, hdCells, ptb_fam, factsP_fam, upd_fam] at v1
          (go_simp) <;> (with_reducible rfl)
        case' r2_6 =>
          try simp only [Act.put, List.setIfInBounds_toArray, List.set_cons_zero, List.set_cons_succ]
        refine takeH (i := 6) (v := ?v2_7) rfl (by kernel_rfl) (by kernel_rfl) (by kernel_rfl) (fun _ _ _ h => h) (by rfl) ?y2_7 (O.sel [false, false, false, true, true, true]) ?r2_7
        case y2_7 =>
          intro WW hSw
          replace hSw : Mem _ _ WW _ := hSw
          have cs := hSw.facts
          simp only [sel, factsP, cellsP, roomP, foots_cons, foots_nil, foots_append, foot_pt, ptb, ptb_mapA, foot_mapA, factsP_mapA, foot_bun, List.append_nil, List.nil_append, List.cons_append, List.nodup_cons, List.nodup_nil, List.mem_cons, List.not_mem_nil, List.mem_singleton, List.forall_mem_cons, not_or, not_false_eq_true, and_true, true_and, or_false, false_or, forall_eq_or_imp, forall_eq, implies_true, Nat.zero_add, Nat.reduceAdd, and_assoc, ptb_listA, factsP_listA, upd_listA, ptb_tabA, factsP_tabA, upd_tabA, Nat.mul_one, hdCells, ptb_fam, factsP_fam, upd_fam] at cs
          have v1 := PT.out _ _ hSw (by simp [Tk.sel])
          try simp only [cellsQ, roomP, and_assoc, and_true, true_and, Nat.add_zero, Nat.zero_add, Nat.reduceAdd, factsP, cellsP, roomP, foots_cons, foots_nil, foots_append, foot_pt, ptb, ptb_mapA, foot_mapA, factsP_mapA, foot_bun, List.append_nil, List.nil_append, List.cons_append, List.nodup_cons, List.nodup_nil, List.mem_cons, List.not_mem_nil, List.mem_singleton, List.forall_mem_cons, not_or, not_false_eq_true, and_true, true_and, or_false, false_or, forall_eq_or_imp, forall_eq, implies_true, Nat.zero_add, Nat.reduceAdd, and_assoc, ptb_listA, factsP_listA, upd_listA, ptb_tabA, factsP_tabA, upd_tabA, Nat.mul_one, hdCells, ptb_fam, factsP_fam, upd_fam] at v1
          (go_simp) <;> (with_reducible rfl)
        case' r2_7 =>
          try simp only [Act.put, List.setIfInBounds_toArray, List.set_cons_zero, List.set_cons_succ]
        refine takeH (i := 7) (v := ?v2_8) rfl (by kernel_rfl) (by kernel_rfl) (by kernel_rfl) (fun _ _ _ h => h) (by rfl) ?y2_8 (O.sel [false, false, false, true, true, true]) ?r2_8
        case y2_8 =>
          intro WW hSw
          replace hSw : Mem _ _ WW _ := hSw
          have cs := hSw.facts
          simp only [sel, factsP, cellsP, roomP, foots_cons, foots_nil, foots_append, foot_pt, ptb, ptb_mapA, foot_mapA, factsP_mapA, foot_bun, List.append_nil, List.nil_append, List.cons_append, List.nodup_cons, List.nodup_nil, List.mem_cons, List.not_mem_nil, List.mem_singleton, List.forall_mem_cons, not_or, not_false_eq_true, and_true, true_and, or_false, false_or, forall_eq_or_imp, forall_eq, implies_true, Nat.zero_add, Nat.reduceAdd, and_assoc, ptb_listA, factsP_listA, upd_listA, ptb_tabA, factsP_tabA, upd_tabA, Nat.mul_one, hdCells, ptb_fam, factsP_fam, upd_fam] at cs
          have v1 := PT.out _ _ hSw (by simp [Tk.sel])
          try simp only [cellsQ, roomP, and_assoc, and_true, true_and, Nat.add_zero, Nat.zero_add, Nat.reduceAdd, factsP, cellsP, roomP, foots_cons, foots_nil, foots_append, foot_pt, ptb, ptb_mapA, foot_mapA, factsP_mapA, foot_bun, List.append_nil, List.nil_append, List.cons_append, List.nodup_cons, List.nodup_nil, List.mem_cons, List.not_mem_nil, List.mem_singleton, List.forall_mem_cons, not_or, not_false_eq_true, and_true, true_and, or_false, false_or, forall_eq_or_imp, forall_eq, implies_true, Nat.zero_add, Nat.reduceAdd, and_assoc, ptb_listA, factsP_listA, upd_listA, ptb_tabA, factsP_tabA, upd_tabA, Nat.mul_one, hdCells, ptb_fam, factsP_fam, upd_fam] at v1
          (go_simp) <;> (with_reducible rfl)
        case' r2_8 =>
          try simp only [Act.put, List.setIfInBounds_toArray, List.set_cons_zero, List.set_cons_succ]
        apply cutT2
        case main =>
          intro hT2_0
          apply cutT1
          case main =>
            intro hT2_1
            apply cutT1
            case main =>
              intro hT2_2
              apply cutT2
              case main =>
                intro hT2_3
                refine wpAnyH_ready (rs := [8, 14, 15]) (by kernel_rfl) (by simp) ?_
                refine consH rfl (fun K hK => ?_) ?_
                · have cs := O.facts
                  simp only [factsP, cellsP, roomP, foots_cons, foots_nil, foots_append, foot_pt, ptb, ptb_mapA, foot_mapA, factsP_mapA, foot_bun, List.append_nil, List.nil_append, List.cons_append, List.nodup_cons, List.nodup_nil, List.mem_cons, List.not_mem_nil, List.mem_singleton, List.forall_mem_cons, not_or, not_false_eq_true, and_true, true_and, or_false, false_or, forall_eq_or_imp, forall_eq, implies_true, Nat.zero_add, Nat.reduceAdd, and_assoc, ptb_listA, factsP_listA, upd_listA, ptb_tabA, factsP_tabA, upd_tabA, Nat.mul_one, hdCells, ptb_fam, factsP_fam, upd_fam] at cs
                  have v1 := PT.out _ _ O (by simp [Tk.sel])
                  try simp only [cellsQ, roomP, and_assoc, and_true, true_and, Nat.add_zero, Nat.zero_add, Nat.reduceAdd, factsP, cellsP, roomP, foots_cons, foots_nil, foots_append, foot_pt, ptb, ptb_mapA, foot_mapA, factsP_mapA, foot_bun, List.append_nil, List.nil_append, List.cons_append, List.nodup_cons, List.nodup_nil, List.mem_cons, List.not_mem_nil, List.mem_singleton, List.forall_mem_cons, not_or, not_false_eq_true, and_true, true_and, or_false, false_or, forall_eq_or_imp, forall_eq, implies_true, Nat.zero_add, Nat.reduceAdd, and_assoc, ptb_listA, factsP_listA, upd_listA, ptb_tabA, factsP_tabA, upd_tabA, Nat.mul_one, hdCells, ptb_fam, factsP_fam, upd_fam] at v1
                  go_simp
                  apply Mem.atCall
                  case h => repeat' (first | (with_reducible exact O) | (with_reducible apply Mem.drew) | (with_reducible apply Mem.drewN) | (with_reducible apply Mem.ext) | (with_reducible apply Mem.alloc) | (with_reducible apply Mem.setCell) | (simp only [ptb, ptb_upd, foots_cons, List.mem_cons, World.size_alloc, size_ext, World.size_setCell, true_or, or_true, eq_self_iff_true, ptb_listA, ptb_tabA, ptb_fam]))
                  intro w2_9 O'
                  (try clear O)
                  have O := O'
                  clear O'
                  (first | simp only [sel, rst, List.cons_append, List.nil_append, World.size_alloc, size_ext, World.size_setCell, size_setMap, World.size_drew, size_drewN, upd, List.set_cons_zero, List.set_cons_succ, if_true, if_false, reduceIte, not_false_eq_true, ne_lt0, ne_lt1, ne_lt2, ne_lt3, ne_lt4, upd_listA, upd_tabA, upd_fam, cs] at O | simp only [sel, rst, List.cons_append, List.nil_append, World.size_alloc, size_ext, World.size_setCell, size_setMap, World.size_drew, size_drewN, upd, List.set_cons_zero, List.set_cons_succ, if_true, if_false, reduceIte, not_false_eq_true, ne_lt0, ne_lt1, ne_lt2, ne_lt3, ne_lt4, upd_listA, upd_tabA, upd_fam] at O | skip)
                  (try clear cs)
                  (try clear v1)
                  (try clear v2)
                  (try clear v3)
                  refine (CP.out _ (O.pre [true])).mono ?_
                  rintro e w2_9' ⟨rfl, o⟩
                  replace O := O.callp [true] o
                  clear o
                  simp only [put, List.cons_append, List.nil_append] at O
                  go_wp2_with fail
                  refine hK.out _ _ (O.sel [false, false, false, true, true, true]) (fun _ => ?_)
                  clear hK K
                  refine takeH (i := 9) (v := ?v2_10) rfl (by kernel_rfl) (by kernel_rfl) (by kernel_rfl) (fun _ _ _ h => h) (by rfl) ?y2_10 (O.sel [false, false, false, true, true, true]) ?r2_10
                  case y2_10 =>
                    intro WW hSw
                    (go_simp) <;> (with_reducible rfl)
                  case' r2_10 =>
                    try simp only [Act.put, List.setIfInBounds_toArray, List.set_cons_zero, List.set_cons_succ]
                  refine takeH (i := 10) (v := ?v2_11) rfl (by kernel_rfl) (by kernel_rfl) (by kernel_rfl) (fun _ _ _ h => h) (by rfl) ?y2_11 (O.sel [false, false, false, true, true, true]) ?r2_11
                  case y2_11 =>
                    intro WW hSw
                    (go_simp) <;> (with_reducible rfl)
                  case' r2_11 =>
                    try simp only [Act.put, List.setIfInBounds_toArray, List.set_cons_zero, List.set_cons_succ]
                  refine takeH (i := 11) (v := ?v2_12) rfl (by kernel_rfl) (by kernel_rfl) (by kernel_rfl) (fun _ _ _ h => h) (by rfl) ?y2_12 (O.sel [false, false, false, true, true, true]) ?r2_12
                  case y2_12 =>
                    intro WW hSw
                    (go_simp) <;> (with_reducible rfl)
                  case' r2_12 =>
                    try simp only [Act.put, List.setIfInBounds_toArray, List.set_cons_zero, List.set_cons_succ]
                  refine takeH (i := 12) (v := ?v2_13) rfl (by kernel_rfl) (by kernel_rfl) (by kernel_rfl) (fun _ _ _ h => h) (by rfl) ?y2_13 (O.sel [false, false, false, true, true, true]) ?r2_13
                  case y2_13 =>
                    intro WW hSw
                    (go_simp) <;> (with_reducible rfl)
                  case' r2_13 =>
                    try simp only [Act.put, List.setIfInBounds_toArray, List.set_cons_zero, List.set_cons_succ]
                  refine takeH (i := 13) (v := ?v2_14) rfl (by kernel_rfl) (by kernel_rfl) (by kernel_rfl) (fun _ _ _ h => h) (by rfl) ?y2_14 (O.sel [false, false, false, true, true, true]) ?r2_14
                  case y2_14 =>
                    intro WW hSw
                    (go_simp) <;> (with_reducible rfl)
                  case' r2_14 =>
                    try simp only [Act.put, List.setIfInBounds_toArray, List.set_cons_zero, List.set_cons_succ]
                  refine wpAnyH_ready (rs := [14, 15]) (by kernel_rfl) (by simp) ?_
                  refine consH rfl (fun K hK => ?_) ?_
                  · have cs := O.facts
                    simp only [factsP, cellsP, roomP, foots_cons, foots_nil, foots_append, foot_pt, ptb, ptb_mapA, foot_mapA, factsP_mapA, foot_bun, List.append_nil, List.nil_append, List.cons_append, List.nodup_cons, List.nodup_nil, List.mem_cons, List.not_mem_nil, List.mem_singleton, List.forall_mem_cons, not_or, not_false_eq_true, and_true, true_and, or_false, false_or, forall_eq_or_imp, forall_eq, implies_true, Nat.zero_add, Nat.reduceAdd, and_assoc, ptb_listA, factsP_listA, upd_listA, ptb_tabA, factsP_tabA, upd_tabA, Nat.mul_one, hdCells, ptb_fam, factsP_fam, upd_fam] at cs
                    have v1 := PT.out _ _ O (by simp [Tk.sel])
                    try simp only [cellsQ, roomP, and_assoc, and_true, true_and, Nat.add_zero, Nat.zero_add, Nat.reduceAdd, factsP, cellsP, roomP, foots_cons, foots_nil, foots_append, foot_pt, ptb, ptb_mapA, foot_mapA, factsP_mapA, foot_bun, List.append_nil, List.nil_append, List.cons_append, List.nodup_cons, List.nodup_nil, List.mem_cons, List.not_mem_nil, List.mem_singleton, List.forall_mem_cons, not_or, not_false_eq_true, and_true, true_and, or_false, false_or, forall_eq_or_imp, forall_eq, implies_true, Nat.zero_add, Nat.reduceAdd, and_assoc, ptb_listA, factsP_listA, upd_listA, ptb_tabA, factsP_tabA, upd_tabA, Nat.mul_one, hdCells, ptb_fam, factsP_fam, upd_fam] at v1
                    go_simp
                    apply Mem.atK
                    case h => repeat' (first | (with_reducible exact O) | (with_reducible apply Mem.drew) | (with_reducible apply Mem.drewN) | (with_reducible apply Mem.ext) | (with_reducible apply Mem.alloc) | (with_reducible apply Mem.setCell) | (simp only [ptb, ptb_upd, foots_cons, List.mem_cons, World.size_alloc, size_ext, World.size_setCell, true_or, or_true, eq_self_iff_true, ptb_listA, ptb_tabA, ptb_fam]))
                    intro w2_15 O'
                    (try clear O)
                    have O := O'
                    clear O'
                    (first | simp only [sel, rst, List.cons_append, List.nil_append, World.size_alloc, size_ext, World.size_setCell, size_setMap, World.size_drew, size_drewN, upd, List.set_cons_zero, List.set_cons_succ, if_true, if_false, reduceIte, not_false_eq_true, ne_lt0, ne_lt1, ne_lt2, ne_lt3, ne_lt4, upd_listA, upd_tabA, upd_fam, cs] at O | simp only [sel, rst, List.cons_append, List.nil_append, World.size_alloc, size_ext, World.size_setCell, size_setMap, World.size_drew, size_drewN, upd, List.set_cons_zero, List.set_cons_succ, if_true, if_false, reduceIte, not_false_eq_true, ne_lt0, ne_lt1, ne_lt2, ne_lt3, ne_lt4, upd_listA, upd_tabA, upd_fam] at O | skip)
                    (try clear cs)
                    (try clear v1)
                    (try clear v2)
                    (try clear v3)
                    generalize w2_9'.heap.size = p2_16 at O ⊢
                    refine hK.out _ _ (O.sel [false, false, false, false, true, true, true]) (fun _ => ?_)
                    clear hK K
                    revert O
                    exact hT2_1.out p2_16 w2_15
                  refine consH rfl (fun K hK => ?_) ?_
                  · have cs := O.facts
                    simp only [factsP, cellsP, roomP, foots_cons, foots_nil, foots_append, foot_pt, ptb, ptb_mapA, foot_mapA, factsP_mapA, foot_bun, List.append_nil, List.nil_append, List.cons_append, List.nodup_cons, List.nodup_nil, List.mem_cons, List.not_mem_nil, List.mem_singleton, List.forall_mem_cons, not_or, not_false_eq_true, and_true, true_and, or_false, false_or, forall_eq_or_imp, forall_eq, implies_true, Nat.zero_add, Nat.reduceAdd, and_assoc, ptb_listA, factsP_listA, upd_listA, ptb_tabA, factsP_tabA, upd_tabA, Nat.mul_one, hdCells, ptb_fam, factsP_fam, upd_fam] at cs
                    have v1 := PT.out _ _ O (by simp [Tk.sel])
                    try simp only [cellsQ, roomP, and_assoc, and_true, true_and, Nat.add_zero, Nat.zero_add, Nat.reduceAdd, factsP, cellsP, roomP, foots_cons, foots_nil, foots_append, foot_pt, ptb, ptb_mapA, foot_mapA, factsP_mapA, foot_bun, List.append_nil, List.nil_append, List.cons_append, List.nodup_cons, List.nodup_nil, List.mem_cons, List.not_mem_nil, List.mem_singleton, List.forall_mem_cons, not_or, not_false_eq_true, and_true, true_and, or_false, false_or, forall_eq_or_imp, forall_eq, implies_true, Nat.zero_add, Nat.reduceAdd, and_assoc, ptb_listA, factsP_listA, upd_listA, ptb_tabA, factsP_tabA, upd_tabA, Nat.mul_one, hdCells, ptb_fam, factsP_fam, upd_fam] at v1
                    go_simp
                    apply Mem.atK
                    case h => repeat' (first | (with_reducible exact O) | (with_reducible apply Mem.drew) | (with_reducible apply Mem.drewN) | (with_reducible apply Mem.ext) | (with_reducible apply Mem.alloc) | (with_reducible apply Mem.setCell) | (simp only [ptb, ptb_upd, foots_cons, List.mem_cons, World.size_alloc, size_ext, World.size_setCell, true_or, or_true, eq_self_iff_true, ptb_listA, ptb_tabA, ptb_fam]))
                    intro w2_17 O'
                    (try clear O)
                    have O := O'
                    clear O'
                    (first | simp only [sel, rst, List.cons_append, List.nil_append, World.size_alloc, size_ext, World.size_setCell, size_setMap, World.size_drew, size_drewN, upd, List.set_cons_zero, List.set_cons_succ, if_true, if_false, reduceIte, not_false_eq_true, ne_lt0, ne_lt1, ne_lt2, ne_lt3, ne_lt4, upd_listA, upd_tabA, upd_fam, cs] at O | simp only [sel, rst, List.cons_append, List.nil_append, World.size_alloc, size_ext, World.size_setCell, size_setMap, World.size_drew, size_drewN, upd, List.set_cons_zero, List.set_cons_succ, if_true, if_false, reduceIte, not_false_eq_true, ne_lt0, ne_lt1, ne_lt2, ne_lt3, ne_lt4, upd_listA, upd_tabA, upd_fam] at O | skip)
                    (try clear cs)
                    (try clear v1)
                    (try clear v2)
                    (try clear v3)
                    generalize w2_9'.heap.size = p2_18 at O ⊢
                    refine hK.out _ _ (O.sel [false, false, false, false, true, true, true]) (fun _ => ?_)
                    clear hK K
                    revert O
                    exact hT2_2.out p2_18 w2_17
                  exact AllReadyH.nil
                refine consH rfl (fun K hK => ?_) ?_
                · have cs := O.facts
                  simp only [factsP, cellsP, roomP, foots_cons, foots_nil, foots_append, foot_pt, ptb, ptb_mapA, foot_mapA, factsP_mapA, foot_bun, List.append_nil, List.nil_append, List.cons_append, List.nodup_cons, List.nodup_nil, List.mem_cons, List.not_mem_nil, List.mem_singleton, List.forall_mem_cons, not_or, not_false_eq_true, and_true, true_and, or_false, false_or, forall_eq_or_imp, forall_eq, implies_true, Nat.zero_add, Nat.reduceAdd, and_assoc, ptb_listA, factsP_listA, upd_listA, ptb_tabA, factsP_tabA, upd_tabA, Nat.mul_one, hdCells, ptb_fam, factsP_fam, upd_fam] at cs
                  have v1 := PT.out _ _ O (by simp [Tk.sel])
                  try simp only [cellsQ, roomP, and_assoc, and_true, true_and, Nat.add_zero, Nat.zero_add, Nat.reduceAdd, factsP, cellsP, roomP, foots_cons, foots_nil, foots_append, foot_pt, ptb, ptb_mapA, foot_mapA, factsP_mapA, foot_bun, List.append_nil, List.nil_append, List.cons_append, List.nodup_cons, List.nodup_nil, List.mem_cons, List.not_mem_nil, List.mem_singleton, List.forall_mem_cons, not_or, not_false_eq_true, and_true, true_and, or_false, false_or, forall_eq_or_imp, forall_eq, implies_true, Nat.zero_add, Nat.reduceAdd, and_assoc, ptb_listA, factsP_listA, upd_listA, ptb_tabA, factsP_tabA, upd_tabA, Nat.mul_one, hdCells, ptb_fam, factsP_fam, upd_fam] at v1
                  go_simp
                  apply Mem.atK
                  case h => repeat' (first | (with_reducible exact O) | (with_reducible apply Mem.drew) | (with_reducible apply Mem.drewN) | (with_reducible apply Mem.ext) | (with_reducible apply Mem.alloc) | (with_reducible apply Mem.setCell) | (simp only [ptb, ptb_upd, foots_cons, List.mem_cons, World.size_alloc, size_ext, World.size_setCell, true_or, or_true, eq_self_iff_true, ptb_listA, ptb_tabA, ptb_fam]))
                  intro w2_19 O'
                  (try clear O)
                  have O := O'
                  clear O'
                  (first | simp only [sel, rst, List.cons_append, List.nil_append, World.size_alloc, size_ext, World.size_setCell, size_setMap, World.size_drew, size_drewN, upd, List.set_cons_zero, List.set_cons_succ, if_true, if_false, reduceIte, not_false_eq_true, ne_lt0, ne_lt1, ne_lt2, ne_lt3, ne_lt4, upd_listA, upd_tabA, upd_fam, cs] at O | simp only [sel, rst, List.cons_append, List.nil_append, World.size_alloc, size_ext, World.size_setCell, size_setMap, World.size_drew, size_drewN, upd, List.set_cons_zero, List.set_cons_succ, if_true, if_false, reduceIte, not_false_eq_true, ne_lt0, ne_lt1, ne_lt2, ne_lt3, ne_lt4, upd_listA, upd_tabA, upd_fam] at O | skip)
                  (try clear cs)
                  (try clear v1)
                  (try clear v2)
                  (try clear v3)
                  generalize wr2.heap.size = p2_20 at O ⊢
                  refine hK.out _ _ (O.sel [false, false, false, false, true, true, true]) (fun _ => ?_)
                  clear hK K
                  refine wpAnyH_ready (rs := [8, 15]) (by kernel_rfl) (by simp) ?_
                  refine consH rfl (fun K hK => ?_) ?_
                  · have cs := O.facts
                    simp only [factsP, cellsP, roomP, foots_cons, foots_nil, foots_append, foot_pt, ptb, ptb_mapA, foot_mapA, factsP_mapA, foot_bun, List.append_nil, List.nil_append, List.cons_append, List.nodup_cons, List.nodup_nil, List.mem_cons, List.not_mem_nil, List.mem_singleton, List.forall_mem_cons, not_or, not_false_eq_true, and_true, true_and, or_false, false_or, forall_eq_or_imp, forall_eq, implies_true, Nat.zero_add, Nat.reduceAdd, and_assoc, ptb_listA, factsP_listA, upd_listA, ptb_tabA, factsP_tabA, upd_tabA, Nat.mul_one, hdCells, ptb_fam, factsP_fam, upd_fam] at cs
                    have v1 := PT.out _ _ O (by simp [Tk.sel])
                    try simp only [cellsQ, roomP, and_assoc, and_true, true_and, Nat.add_zero, Nat.zero_add, Nat.reduceAdd, factsP, cellsP, roomP, foots_cons, foots_nil, foots_append, foot_pt, ptb, ptb_mapA, foot_mapA, factsP_mapA, foot_bun, List.append_nil, List.nil_append, List.cons_append, List.nodup_cons, List.nodup_nil, List.mem_cons, List.not_mem_nil, List.mem_singleton, List.forall_mem_cons, not_or, not_false_eq_true, and_true, true_and, or_false, false_or, forall_eq_or_imp, forall_eq, implies_true, Nat.zero_add, Nat.reduceAdd, and_assoc, ptb_listA, factsP_listA, upd_listA, ptb_tabA, factsP_tabA, upd_tabA, Nat.mul_one, hdCells, ptb_fam, factsP_fam, upd_fam] at v1
                    go_simp
                    apply Mem.atCall
                    case h => repeat' (first | (with_reducible exact O) | (with_reducible apply Mem.drew) | (with_reducible apply Mem.drewN) | (with_reducible apply Mem.ext) | (with_reducible apply Mem.alloc) | (with_reducible apply Mem.setCell) | (simp only [ptb, ptb_upd, foots_cons, List.mem_cons, World.size_alloc, size_ext, World.size_setCell, true_or, or_true, eq_self_iff_true, ptb_listA, ptb_tabA, ptb_fam]))
                    intro w2_21 O'
                    (try clear O)
                    have O := O'
                    clear O'
                    (first | simp only [sel, rst, List.cons_append, List.nil_append, World.size_alloc, size_ext, World.size_setCell, size_setMap, World.size_drew, size_drewN, upd, List.set_cons_zero, List.set_cons_succ, if_true, if_false, reduceIte, not_false_eq_true, ne_lt0, ne_lt1, ne_lt2, ne_lt3, ne_lt4, upd_listA, upd_tabA, upd_fam, cs] at O | simp only [sel, rst, List.cons_append, List.nil_append, World.size_alloc, size_ext, World.size_setCell, size_setMap, World.size_drew, size_drewN, upd, List.set_cons_zero, List.set_cons_succ, if_true, if_false, reduceIte, not_false_eq_true, ne_lt0, ne_lt1, ne_lt2, ne_lt3, ne_lt4, upd_listA, upd_tabA, upd_fam] at O | skip)
                    (try clear cs)
                    (try clear v1)
                    (try clear v2)
                    (try clear v3)
                    refine (CP.out _ (O.pre [false, true])).mono ?_
                    rintro e w2_21' ⟨rfl, o⟩
                    replace O := O.callp [false, true] o
                    clear o
                    simp only [put, List.cons_append, List.nil_append] at O
                    go_wp2_with fail
                    refine hK.out _ _ (O.sel [false, false, false, false, true, true, true]) (fun _ => ?_)
                    clear hK K
                    refine takeH (i := 9) (v := ?v2_22) rfl (by kernel_rfl) (by kernel_rfl) (by kernel_rfl) (fun _ _ _ h => h) (by rfl) ?y2_22 (O.sel [false, false, false, false, true, true, true]) ?r2_22
                    case y2_22 =>
                      intro WW hSw
                      (go_simp) <;> (with_reducible rfl)
                    case' r2_22 =>
                      try simp only [Act.put, List.setIfInBounds_toArray, List.set_cons_zero, List.set_cons_succ]
                    refine takeH (i := 10) (v := ?v2_23) rfl (by kernel_rfl) (by kernel_rfl) (by kernel_rfl) (fun _ _ _ h => h) (by rfl) ?y2_23 (O.sel [false, false, false, false, true, true, true]) ?r2_23
                    case y2_23 =>
                      intro WW hSw
                      (go_simp) <;> (with_reducible rfl)
                    case' r2_23 =>
                      try simp only [Act.put, List.setIfInBounds_toArray, List.set_cons_zero, List.set_cons_succ]
                    refine takeH (i := 11) (v := ?v2_24) rfl (by kernel_rfl) (by kernel_rfl) (by kernel_rfl) (fun _ _ _ h => h) (by rfl) ?y2_24 (O.sel [false, false, false, false, true, true, true]) ?r2_24
                    case y2_24 =>
                      intro WW hSw
                      (go_simp) <;> (with_reducible rfl)
                    case' r2_24 =>
                      try simp only [Act.put, List.setIfInBounds_toArray, List.set_cons_zero, List.set_cons_succ]
                    refine takeH (i := 12) (v := ?v2_25) rfl (by kernel_rfl) (by kernel_rfl) (by kernel_rfl) (fun _ _ _ h => h) (by rfl) ?y2_25 (O.sel [false, false, false, false, true, true, true]) ?r2_25
                    case y2_25 =>
                      intro WW hSw
                      (go_simp) <;> (with_reducible rfl)
                    case' r2_25 =>
                      try simp only [Act.put, List.setIfInBounds_toArray, List.set_cons_zero, List.set_cons_succ]
                    refine takeH (i := 13) (v := ?v2_26) rfl (by kernel_rfl) (by kernel_rfl) (by kernel_rfl) (fun _ _ _ h => h) (by rfl) ?y2_26 (O.sel [false, false, false, false, true, true, true]) ?r2_26
                    case y2_26 =>
                      intro WW hSw
                      (go_simp) <;> (with_reducible rfl)
                    case' r2_26 =>
                      try simp only [Act.put, List.setIfInBounds_toArray, List.set_cons_zero, List.set_cons_succ]
                    revert O
                    exact hT2_1.out p2_20 w2_21'
                  refine consH rfl (fun K hK => ?_) ?_
                  · have cs := O.facts
                    simp only [factsP, cellsP, roomP, foots_cons, foots_nil, foots_append, foot_pt, ptb, ptb_mapA, foot_mapA, factsP_mapA, foot_bun, List.append_nil, List.nil_append, List.cons_append, List.nodup_cons, List.nodup_nil, List.mem_cons, List.not_mem_nil, List.mem_singleton, List.forall_mem_cons, not_or, not_false_eq_true, and_true, true_and, or_false, false_or, forall_eq_or_imp, forall_eq, implies_true, Nat.zero_add, Nat.reduceAdd, and_assoc, ptb_listA, factsP_listA, upd_listA, ptb_tabA, factsP_tabA, upd_tabA, Nat.mul_one, hdCells, ptb_fam, factsP_fam, upd_fam] at cs
                    have v1 := PT.out _ _ O (by simp [Tk.sel])
                    try simp only [cellsQ, roomP, and_assoc, and_true, true_and, Nat.add_zero, Nat.zero_add, Nat.reduceAdd, factsP, cellsP, roomP, foots_cons, foots_nil, foots_append, foot_pt, ptb, ptb_mapA, foot_mapA, factsP_mapA, foot_bun, List.append_nil, List.nil_append, List.cons_append, List.nodup_cons, List.nodup_nil, List.mem_cons, List.not_mem_nil, List.mem_singleton, List.forall_mem_cons, not_or, not_false_eq_true, and_true, true_and, or_false, false_or, forall_eq_or_imp, forall_eq, implies_true, Nat.zero_add, Nat.reduceAdd, and_assoc, ptb_listA, factsP_listA, upd_listA, ptb_tabA, factsP_tabA, upd_tabA, Nat.mul_one, hdCells, ptb_fam, factsP_fam, upd_fam] at v1
                    go_simp
                    apply Mem.atK
                    case h => repeat' (first | (with_reducible exact O) | (with_reducible apply Mem.drew) | (with_reducible apply Mem.drewN) | (with_reducible apply Mem.ext) | (with_reducible apply Mem.alloc) | (with_reducible apply Mem.setCell) | (simp only [ptb, ptb_upd, foots_cons, List.mem_cons, World.size_alloc, size_ext, World.size_setCell, true_or, or_true, eq_self_iff_true, ptb_listA, ptb_tabA, ptb_fam]))
                    intro w2_27 O'
                    (try clear O)
                    have O := O'
                    clear O'
                    (first | simp only [sel, rst, List.cons_append, List.nil_append, World.size_alloc, size_ext, World.size_setCell, size_setMap, World.size_drew, size_drewN, upd, List.set_cons_zero, List.set_cons_succ, if_true, if_false, reduceIte, not_false_eq_true, ne_lt0, ne_lt1, ne_lt2, ne_lt3, ne_lt4, upd_listA, upd_tabA, upd_fam, cs] at O | simp only [sel, rst, List.cons_append, List.nil_append, World.size_alloc, size_ext, World.size_setCell, size_setMap, World.size_drew, size_drewN, upd, List.set_cons_zero, List.set_cons_succ, if_true, if_false, reduceIte, not_false_eq_true, ne_lt0, ne_lt1, ne_lt2, ne_lt3, ne_lt4, upd_listA, upd_tabA, upd_fam] at O | skip)
                    (try clear cs)
                    (try clear v1)
                    (try clear v2)
                    (try clear v3)
                    generalize w2_19.heap.size = p2_28 at O ⊢
                    refine hK.out _ _ (O.sel [false, false, false, false, false, true, true, true]) (fun _ => ?_)
                    clear hK K
                    revert O
                    exact hT2_3.out p2_28 p2_20 w2_27
                  exact AllReadyH.nil
                refine consH rfl (fun K hK => ?_) ?_
                · have cs := O.facts
                  simp only [factsP, cellsP, roomP, foots_cons, foots_nil, foots_append, foot_pt, ptb, ptb_mapA, foot_mapA, factsP_mapA, foot_bun, List.append_nil, List.nil_append, List.cons_append, List.nodup_cons, List.nodup_nil, List.mem_cons, List.not_mem_nil, List.mem_singleton, List.forall_mem_cons, not_or, not_false_eq_true, and_true, true_and, or_false, false_or, forall_eq_or_imp, forall_eq, implies_true, Nat.zero_add, Nat.reduceAdd, and_assoc, ptb_listA, factsP_listA, upd_listA, ptb_tabA, factsP_tabA, upd_tabA, Nat.mul_one, hdCells, ptb_fam, factsP_fam, upd_fam] at cs
                  have v1 := PT.out _ _ O (by simp [Tk.sel])
                  try simp only [cellsQ, roomP, and_assoc, and_true, true_and, Nat.add_zero, Nat.zero_add, Nat.reduceAdd, factsP, cellsP, roomP, foots_cons, foots_nil, foots_append, foot_pt, ptb, ptb_mapA, foot_mapA, factsP_mapA, foot_bun, List.append_nil, List.nil_append, List.cons_append, List.nodup_cons, List.nodup_nil, List.mem_cons, List.not_mem_nil, List.mem_singleton, List.forall_mem_cons, not_or, not_false_eq_true, and_true, true_and, or_false, false_or, forall_eq_or_imp, forall_eq, implies_true, Nat.zero_add, Nat.reduceAdd, and_assoc, ptb_listA, factsP_listA, upd_listA, ptb_tabA, factsP_tabA, upd_tabA, Nat.mul_one, hdCells, ptb_fam, factsP_fam, upd_fam] at v1
                  go_simp
                  apply Mem.atK
                  case h => repeat' (first | (with_reducible exact O) | (with_reducible apply Mem.drew) | (with_reducible apply Mem.drewN) | (with_reducible apply Mem.ext) | (with_reducible apply Mem.alloc) | (with_reducible apply Mem.setCell) | (simp only [ptb, ptb_upd, foots_cons, List.mem_cons, World.size_alloc, size_ext, World.size_setCell, true_or, or_true, eq_self_iff_true, ptb_listA, ptb_tabA, ptb_fam]))
                  intro w2_29 O'
                  (try clear O)
                  have O := O'
                  clear O'
                  (first | simp only [sel, rst, List.cons_append, List.nil_append, World.size_alloc, size_ext, World.size_setCell, size_setMap, World.size_drew, size_drewN, upd, List.set_cons_zero, List.set_cons_succ, if_true, if_false, reduceIte, not_false_eq_true, ne_lt0, ne_lt1, ne_lt2, ne_lt3, ne_lt4, upd_listA, upd_tabA, upd_fam, cs] at O | simp only [sel, rst, List.cons_append, List.nil_append, World.size_alloc, size_ext, World.size_setCell, size_setMap, World.size_drew, size_drewN, upd, List.set_cons_zero, List.set_cons_succ, if_true, if_false, reduceIte, not_false_eq_true, ne_lt0, ne_lt1, ne_lt2, ne_lt3, ne_lt4, upd_listA, upd_tabA, upd_fam] at O | skip)
                  (try clear cs)
                  (try clear v1)
                  (try clear v2)
                  (try clear v3)
                  generalize wr2.heap.size = p2_30 at O ⊢
                  refine hK.out _ _ (O.sel [false, false, false, false, true, true, true]) (fun _ => ?_)
                  clear hK K
                  refine wpAnyH_ready (rs := [8, 14]) (by kernel_rfl) (by simp) ?_
                  refine consH rfl (fun K hK => ?_) ?_
                  · have cs := O.facts
                    simp only [factsP, cellsP, roomP, foots_cons, foots_nil, foots_append, foot_pt, ptb, ptb_mapA, foot_mapA, factsP_mapA, foot_bun, List.append_nil, List.nil_append, List.cons_append, List.nodup_cons, List.nodup_nil, List.mem_cons, List.not_mem_nil, List.mem_singleton, List.forall_mem_cons, not_or, not_false_eq_true, and_true, true_and, or_false, false_or, forall_eq_or_imp, forall_eq, implies_true, Nat.zero_add, Nat.reduceAdd, and_assoc, ptb_listA, factsP_listA, upd_listA, ptb_tabA, factsP_tabA, upd_tabA, Nat.mul_one, hdCells, ptb_fam, factsP_fam, upd_fam] at cs
                    have v1 := PT.out _ _ O (by simp [Tk.sel])
                    try simp only [cellsQ, roomP, and_assoc, and_true, true_and, Nat.add_zero, Nat.zero_add, Nat.reduceAdd, factsP, cellsP, roomP, foots_cons, foots_nil, foots_append, foot_pt, ptb, ptb_mapA, foot_mapA, factsP_mapA, foot_bun, List.append_nil, List.nil_append, List.cons_append, List.nodup_cons, List.nodup_nil, List.mem_cons, List.not_mem_nil, List.mem_singleton, List.forall_mem_cons, not_or, not_false_eq_true, and_true, true_and, or_false, false_or, forall_eq_or_imp, forall_eq, implies_true, Nat.zero_add, Nat.reduceAdd, and_assoc, ptb_listA, factsP_listA, upd_listA, ptb_tabA, factsP_tabA, upd_tabA, Nat.mul_one, hdCells, ptb_fam, factsP_fam, upd_fam] at v1
                    go_simp
                    apply Mem.atCall
                    case h => repeat' (first | (with_reducible exact O) | (with_reducible apply Mem.drew) | (with_reducible apply Mem.drewN) | (with_reducible apply Mem.ext) | (with_reducible apply Mem.alloc) | (with_reducible apply Mem.setCell) | (simp only [ptb, ptb_upd, foots_cons, List.mem_cons, World.size_alloc, size_ext, World.size_setCell, true_or, or_true, eq_self_iff_true, ptb_listA, ptb_tabA, ptb_fam]))
                    intro w2_31 O'
                    (try clear O)
                    have O := O'
                    clear O'
                    (first | simp only [sel, rst, List.cons_append, List.nil_append, World.size_alloc, size_ext, World.size_setCell, size_setMap, World.size_drew, size_drewN, upd, List.set_cons_zero, List.set_cons_succ, if_true, if_false, reduceIte, not_false_eq_true, ne_lt0, ne_lt1, ne_lt2, ne_lt3, ne_lt4, upd_listA, upd_tabA, upd_fam, cs] at O | simp only [sel, rst, List.cons_append, List.nil_append, World.size_alloc, size_ext, World.size_setCell, size_setMap, World.size_drew, size_drewN, upd, List.set_cons_zero, List.set_cons_succ, if_true, if_false, reduceIte, not_false_eq_true, ne_lt0, ne_lt1, ne_lt2, ne_lt3, ne_lt4, upd_listA, upd_tabA, upd_fam] at O | skip)
                    (try clear cs)
                    (try clear v1)
                    (try clear v2)
                    (try clear v3)
                    refine (CP.out _ (O.pre [false, true])).mono ?_
                    rintro e w2_31' ⟨rfl, o⟩
                    replace O := O.callp [false, true] o
                    clear o
                    simp only [put, List.cons_append, List.nil_append] at O
                    go_wp2_with fail
                    refine hK.out _ _ (O.sel [false, false, false, false, true, true, true]) (fun _ => ?_)
                    clear hK K
                    refine takeH (i := 9) (v := ?v2_32) rfl (by kernel_rfl) (by kernel_rfl) (by kernel_rfl) (fun _ _ _ h => h) (by rfl) ?y2_32 (O.sel [false, false, false, false, true, true, true]) ?r2_32
                    case y2_32 =>
                      intro WW hSw
                      (go_simp) <;> (with_reducible rfl)
                    case' r2_32 =>
                      try simp only [Act.put, List.setIfInBounds_toArray, List.set_cons_zero, List.set_cons_succ]
                    refine takeH (i := 10) (v := ?v2_33) rfl (by kernel_rfl) (by kernel_rfl) (by kernel_rfl) (fun _ _ _ h => h) (by rfl) ?y2_33 (O.sel [false, false, false, false, true, true, true]) ?r2_33
                    case y2_33 =>
                      intro WW hSw
                      (go_simp) <;> (with_reducible rfl)
                    case' r2_33 =>
                      try simp only [Act.put, List.setIfInBounds_toArray, List.set_cons_zero, List.set_cons_succ]
                    refine takeH (i := 11) (v := ?v2_34) rfl (by kernel_rfl) (by kernel_rfl) (by kernel_rfl) (fun _ _ _ h => h) (by rfl) ?y2_34 (O.sel [false, false, false, false, true, true, true]) ?r2_34
                    case y2_34 =>
                      intro WW hSw
                      (go_simp) <;> (with_reducible rfl)
                    case' r2_34 =>
                      try simp only [Act.put, List.setIfInBounds_toArray, List.set_cons_zero, List.set_cons_succ]
                    refine takeH (i := 12) (v := ?v2_35) rfl (by kernel_rfl) (by kernel_rfl) (by kernel_rfl) (fun _ _ _ h => h) (by rfl) ?y2_35 (O.sel [false, false, false, false, true, true, true]) ?r2_35
                    case y2_35 =>
                      intro WW hSw
                      (go_simp) <;> (with_reducible rfl)
                    case' r2_35 =>
                      try simp only [Act.put, List.setIfInBounds_toArray, List.set_cons_zero, List.set_cons_succ]
                    refine takeH (i := 13) (v := ?v2_36) rfl (by kernel_rfl) (by kernel_rfl) (by kernel_rfl) (fun _ _ _ h => h) (by rfl) ?y2_36 (O.sel [false, false, false, false, true, true, true]) ?r2_36
                    case y2_36 =>
                      intro WW hSw
                      (go_simp) <;> (with_reducible rfl)
                    case' r2_36 =>
                      try simp only [Act.put, List.setIfInBounds_toArray, List.set_cons_zero, List.set_cons_succ]
                    revert O
                    exact hT2_2.out p2_30 w2_31'
                  refine consH rfl (fun K hK => ?_) ?_
                  · have cs := O.facts
                    simp only [factsP, cellsP, roomP, foots_cons, foots_nil, foots_append, foot_pt, ptb, ptb_mapA, foot_mapA, factsP_mapA, foot_bun, List.append_nil, List.nil_append, List.cons_append, List.nodup_cons, List.nodup_nil, List.mem_cons, List.not_mem_nil, List.mem_singleton, List.forall_mem_cons, not_or, not_false_eq_true, and_true, true_and, or_false, false_or, forall_eq_or_imp, forall_eq, implies_true, Nat.zero_add, Nat.reduceAdd, and_assoc, ptb_listA, factsP_listA, upd_listA, ptb_tabA, factsP_tabA, upd_tabA, Nat.mul_one, hdCells, ptb_fam, factsP_fam, upd_fam] at cs
                    have v1 := PT.out _ _ O (by simp [Tk.sel])
                    try simp only [cellsQ, roomP, and_assoc, and_true, true_and, Nat.add_zero, Nat.zero_add, Nat.reduceAdd, factsP, cellsP, roomP, foots_cons, foots_nil, foots_append, foot_pt, ptb, ptb_mapA, foot_mapA, factsP_mapA, foot_bun, List.append_nil, List.nil_append, List.cons_append, List.nodup_cons, List.nodup_nil, List.mem_cons, List.not_mem_nil, List.mem_singleton, List.forall_mem_cons, not_or, not_false_eq_true, and_true, true_and, or_false, false_or, forall_eq_or_imp, forall_eq, implies_true, Nat.zero_add, Nat.reduceAdd, and_assoc, ptb_listA, factsP_listA, upd_listA, ptb_tabA, factsP_tabA, upd_tabA, Nat.mul_one, hdCells, ptb_fam, factsP_fam, upd_fam] at v1
                    go_simp
                    apply Mem.atK
                    case h => repeat' (first | (with_reducible exact O) | (with_reducible apply Mem.drew) | (with_reducible apply Mem.drewN) | (with_reducible apply Mem.ext) | (with_reducible apply Mem.alloc) | (with_reducible apply Mem.setCell) | (simp only [ptb, ptb_upd, foots_cons, List.mem_cons, World.size_alloc, size_ext, World.size_setCell, true_or, or_true, eq_self_iff_true, ptb_listA, ptb_tabA, ptb_fam]))
                    intro w2_37 O'
                    (try clear O)
                    have O := O'
                    clear O'
                    (first | simp only [sel, rst, List.cons_append, List.nil_append, World.size_alloc, size_ext, World.size_setCell, size_setMap, World.size_drew, size_drewN, upd, List.set_cons_zero, List.set_cons_succ, if_true, if_false, reduceIte, not_false_eq_true, ne_lt0, ne_lt1, ne_lt2, ne_lt3, ne_lt4, upd_listA, upd_tabA, upd_fam, cs] at O | simp only [sel, rst, List.cons_append, List.nil_append, World.size_alloc, size_ext, World.size_setCell, size_setMap, World.size_drew, size_drewN, upd, List.set_cons_zero, List.set_cons_succ, if_true, if_false, reduceIte, not_false_eq_true, ne_lt0, ne_lt1, ne_lt2, ne_lt3, ne_lt4, upd_listA, upd_tabA, upd_fam] at O | skip)
                    (try clear cs)
                    (try clear v1)
                    (try clear v2)
                    (try clear v3)
                    generalize w2_29.heap.size = p2_38 at O ⊢
                    refine hK.out _ _ (O.sel [false, false, false, false, false, true, true, true]) (fun _ => ?_)
                    clear hK K
                    replace O := O.swap
                    revert O
                    exact hT2_3.out p2_30 p2_38 w2_37
                  exact AllReadyH.nil
                exact AllReadyH.nil
              case' tail =>
                intro q2_39 q2_40 w2_41 O
                refine wpAnyH_ready (rs := [8]) (by kernel_rfl) (by simp) ?_
                refine consH rfl (fun K hK => ?_) AllReadyH.nil
                have cs := O.facts
                simp only [factsP, cellsP, roomP, foots_cons, foots_nil, foots_append, foot_pt, ptb, ptb_mapA, foot_mapA, factsP_mapA, foot_bun, List.append_nil, List.nil_append, List.cons_append, List.nodup_cons, List.nodup_nil, List.mem_cons, List.not_mem_nil, List.mem_singleton, List.forall_mem_cons, not_or, not_false_eq_true, and_true, true_and, or_false, false_or, forall_eq_or_imp, forall_eq, implies_true, Nat.zero_add, Nat.reduceAdd, and_assoc, ptb_listA, factsP_listA, upd_listA, ptb_tabA, factsP_tabA, upd_tabA, Nat.mul_one, hdCells, ptb_fam, factsP_fam, upd_fam] at cs
                have v1 := PT.out _ _ O (by simp [Tk.sel])
                try simp only [cellsQ, roomP, and_assoc, and_true, true_and, Nat.add_zero, Nat.zero_add, Nat.reduceAdd, factsP, cellsP, roomP, foots_cons, foots_nil, foots_append, foot_pt, ptb, ptb_mapA, foot_mapA, factsP_mapA, foot_bun, List.append_nil, List.nil_append, List.cons_append, List.nodup_cons, List.nodup_nil, List.mem_cons, List.not_mem_nil, List.mem_singleton, List.forall_mem_cons, not_or, not_false_eq_true, and_true, true_and, or_false, false_or, forall_eq_or_imp, forall_eq, implies_true, Nat.zero_add, Nat.reduceAdd, and_assoc, ptb_listA, factsP_listA, upd_listA, ptb_tabA, factsP_tabA, upd_tabA, Nat.mul_one, hdCells, ptb_fam, factsP_fam, upd_fam] at v1
                go_simp
                apply Mem.atCall
                case h => repeat' (first | (with_reducible exact O) | (with_reducible apply Mem.drew) | (with_reducible apply Mem.drewN) | (with_reducible apply Mem.ext) | (with_reducible apply Mem.alloc) | (with_reducible apply Mem.setCell) | (simp only [ptb, ptb_upd, foots_cons, List.mem_cons, World.size_alloc, size_ext, World.size_setCell, true_or, or_true, eq_self_iff_true, ptb_listA, ptb_tabA, ptb_fam]))
                intro w2_42 O'
                (try clear O)
                have O := O'
                clear O'
                (first | simp only [sel, rst, List.cons_append, List.nil_append, World.size_alloc, size_ext, World.size_setCell, size_setMap, World.size_drew, size_drewN, upd, List.set_cons_zero, List.set_cons_succ, if_true, if_false, reduceIte, not_false_eq_true, ne_lt0, ne_lt1, ne_lt2, ne_lt3, ne_lt4, upd_listA, upd_tabA, upd_fam, cs] at O | simp only [sel, rst, List.cons_append, List.nil_append, World.size_alloc, size_ext, World.size_setCell, size_setMap, World.size_drew, size_drewN, upd, List.set_cons_zero, List.set_cons_succ, if_true, if_false, reduceIte, not_false_eq_true, ne_lt0, ne_lt1, ne_lt2, ne_lt3, ne_lt4, upd_listA, upd_tabA, upd_fam] at O | skip)
                (try clear cs)
                (try clear v1)
                (try clear v2)
                (try clear v3)
                refine (CP.out _ (O.pre [false, false, true])).mono ?_
                rintro e w2_42' ⟨rfl, o⟩
                replace O := O.callp [false, false, true] o
                clear o
                simp only [put, List.cons_append, List.nil_append] at O
                go_wp2_with fail
                refine hK.out _ _ (O.sel [false, false, false, false, false, true, true, true]) (fun _ => ?_)
                clear hK K
                refine takeH (i := 9) (v := ?v2_43) rfl (by kernel_rfl) (by kernel_rfl) (by kernel_rfl) (fun _ _ _ h => h) (by rfl) ?y2_43 (O.sel [false, false, false, false, false, true, true, true]) ?r2_43
                case y2_43 =>
                  intro WW hSw
                  (go_simp) <;> (with_reducible rfl)
                case' r2_43 =>
                  try simp only [Act.put, List.setIfInBounds_toArray, List.set_cons_zero, List.set_cons_succ]
                refine takeH (i := 10) (v := ?v2_44) rfl (by kernel_rfl) (by kernel_rfl) (by kernel_rfl) (fun _ _ _ h => h) (by rfl) ?y2_44 (O.sel [false, false, false, false, false, true, true, true]) ?r2_44
                case y2_44 =>
                  intro WW hSw
                  (go_simp) <;> (with_reducible rfl)
                case' r2_44 =>
                  try simp only [Act.put, List.setIfInBounds_toArray, List.set_cons_zero, List.set_cons_succ]
                refine takeH (i := 11) (v := ?v2_45) rfl (by kernel_rfl) (by kernel_rfl) (by kernel_rfl) (fun _ _ _ h => h) (by rfl) ?y2_45 (O.sel [false, false, false, false, false, true, true, true]) ?r2_45
                case y2_45 =>
                  intro WW hSw
                  (go_simp) <;> (with_reducible rfl)
                case' r2_45 =>
                  try simp only [Act.put, List.setIfInBounds_toArray, List.set_cons_zero, List.set_cons_succ]
                refine takeH (i := 12) (v := ?v2_46) rfl (by kernel_rfl) (by kernel_rfl) (by kernel_rfl) (fun _ _ _ h => h) (by rfl) ?y2_46 (O.sel [false, false, false, false, false, true, true, true]) ?r2_46
                case y2_46 =>
                  intro WW hSw
                  (go_simp) <;> (with_reducible rfl)
                case' r2_46 =>
                  try simp only [Act.put, List.setIfInBounds_toArray, List.set_cons_zero, List.set_cons_succ]
                refine takeH (i := 13) (v := ?v2_47) rfl (by kernel_rfl) (by kernel_rfl) (by kernel_rfl) (fun _ _ _ h => h) (by rfl) ?y2_47 (O.sel [false, false, false, false, false, true, true, true]) ?r2_47
                case y2_47 =>
                  intro WW hSw
                  (go_simp) <;> (with_reducible rfl)
                case' r2_47 =>
                  try simp only [Act.put, List.setIfInBounds_toArray, List.set_cons_zero, List.set_cons_succ]
                revert O
                exact hT2_0.out q2_39 q2_40 w2_42'
            case' tail =>
              intro q2_48 w2_49 O
              refine wpAnyH_ready (rs := [14]) (by kernel_rfl) (by simp) ?_
              refine consH rfl (fun K hK => ?_) AllReadyH.nil
              have cs := O.facts
              simp only [factsP, cellsP, roomP, foots_cons, foots_nil, foots_append, foot_pt, ptb, ptb_mapA, foot_mapA, factsP_mapA, foot_bun, List.append_nil, List.nil_append, List.cons_append, List.nodup_cons, List.nodup_nil, List.mem_cons, List.not_mem_nil, List.mem_singleton, List.forall_mem_cons, not_or, not_false_eq_true, and_true, true_and, or_false, false_or, forall_eq_or_imp, forall_eq, implies_true, Nat.zero_add, Nat.reduceAdd, and_assoc, ptb_listA, factsP_listA, upd_listA, ptb_tabA, factsP_tabA, upd_tabA, Nat.mul_one, hdCells, ptb_fam, factsP_fam, upd_fam] at cs
              have v1 := PT.out _ _ O (by simp [Tk.sel])
              try simp only [cellsQ, roomP, and_assoc, and_true, true_and, Nat.add_zero, Nat.zero_add, Nat.reduceAdd, factsP, cellsP, roomP, foots_cons, foots_nil, foots_append, foot_pt, ptb, ptb_mapA, foot_mapA, factsP_mapA, foot_bun, List.append_nil, List.nil_append, List.cons_append, List.nodup_cons, List.nodup_nil, List.mem_cons, List.not_mem_nil, List.mem_singleton, List.forall_mem_cons, not_or, not_false_eq_true, and_true, true_and, or_false, false_or, forall_eq_or_imp, forall_eq, implies_true, Nat.zero_add, Nat.reduceAdd, and_assoc, ptb_listA, factsP_listA, upd_listA, ptb_tabA, factsP_tabA, upd_tabA, Nat.mul_one, hdCells, ptb_fam, factsP_fam, upd_fam] at v1
              go_simp
              apply Mem.atK
              case h => repeat' (first | (with_reducible exact O) | (with_reducible apply Mem.drew) | (with_reducible apply Mem.drewN) | (with_reducible apply Mem.ext) | (with_reducible apply Mem.alloc) | (with_reducible apply Mem.setCell) | (simp only [ptb, ptb_upd, foots_cons, List.mem_cons, World.size_alloc, size_ext, World.size_setCell, true_or, or_true, eq_self_iff_true, ptb_listA, ptb_tabA, ptb_fam]))
              intro w2_50 O'
              (try clear O)
              have O := O'
              clear O'
              (first | simp only [sel, rst, List.cons_append, List.nil_append, World.size_alloc, size_ext, World.size_setCell, size_setMap, World.size_drew, size_drewN, upd, List.set_cons_zero, List.set_cons_succ, if_true, if_false, reduceIte, not_false_eq_true, ne_lt0, ne_lt1, ne_lt2, ne_lt3, ne_lt4, upd_listA, upd_tabA, upd_fam, cs] at O | simp only [sel, rst, List.cons_append, List.nil_append, World.size_alloc, size_ext, World.size_setCell, size_setMap, World.size_drew, size_drewN, upd, List.set_cons_zero, List.set_cons_succ, if_true, if_false, reduceIte, not_false_eq_true, ne_lt0, ne_lt1, ne_lt2, ne_lt3, ne_lt4, upd_listA, upd_tabA, upd_fam] at O | skip)
              (try clear cs)
              (try clear v1)
              (try clear v2)
              (try clear v3)
              generalize w2_49.heap.size = p2_51 at O ⊢
              refine hK.out _ _ (O.sel [false, false, false, false, false, true, true, true]) (fun _ => ?_)
              clear hK K
              replace O := O.swap
              revert O
              exact hT2_0.out q2_48 p2_51 w2_50
          case' tail =>
            intro q2_52 w2_53 O
            refine wpAnyH_ready (rs := [15]) (by kernel_rfl) (by simp) ?_
            refine consH rfl (fun K hK => ?_) AllReadyH.nil
            have cs := O.facts
            simp only [factsP, cellsP, roomP, foots_cons, foots_nil, foots_append, foot_pt, ptb, ptb_mapA, foot_mapA, factsP_mapA, foot_bun, List.append_nil, List.nil_append, List.cons_append, List.nodup_cons, List.nodup_nil, List.mem_cons, List.not_mem_nil, List.mem_singleton, List.forall_mem_cons, not_or, not_false_eq_true, and_true, true_and, or_false, false_or, forall_eq_or_imp, forall_eq, implies_true, Nat.zero_add, Nat.reduceAdd, and_assoc, ptb_listA, factsP_listA, upd_listA, ptb_tabA, factsP_tabA, upd_tabA, Nat.mul_one, hdCells, ptb_fam, factsP_fam, upd_fam] at cs
            have v1 := PT.out _ _ O (by simp [Tk.sel])
            try simp only [cellsQ, roomP, and_assoc, and_true, true_and, Nat.add_zero, Nat.zero_add, Nat.reduceAdd, factsP, cellsP, roomP, foots_cons, foots_nil, foots_append, foot_pt, ptb, ptb_mapA, foot_mapA, factsP_mapA, foot_bun, List.append_nil, List.nil_append, List.cons_append, List.nodup_cons, List.nodup_nil, List.mem_cons, List.not_mem_nil, List.mem_singleton, List.forall_mem_cons, not_or, not_false_eq_true, and_true, true_and, or_false, false_or, forall_eq_or_imp, forall_eq, implies_true, Nat.zero_add, Nat.reduceAdd, and_assoc, ptb_listA, factsP_listA, upd_listA, ptb_tabA, factsP_tabA, upd_tabA, Nat.mul_one, hdCells, ptb_fam, factsP_fam, upd_fam] at v1
            go_simp
            apply Mem.atK
            case h => repeat' (first | (with_reducible exact O) | (with_reducible apply Mem.drew) | (with_reducible apply Mem.drewN) | (with_reducible apply Mem.ext) | (with_reducible apply Mem.alloc) | (with_reducible apply Mem.setCell) | (simp only [ptb, ptb_upd, foots_cons, List.mem_cons, World.size_alloc, size_ext, World.size_setCell, true_or, or_true, eq_self_iff_true, ptb_listA, ptb_tabA, ptb_fam]))
            intro w2_54 O'
            (try clear O)
            have O := O'
            clear O'
            (first | simp only [sel, rst, List.cons_append, List.nil_append, World.size_alloc, size_ext, World.size_setCell, size_setMap, World.size_drew, size_drewN, upd, List.set_cons_zero, List.set_cons_succ, if_true, if_false, reduceIte, not_false_eq_true, ne_lt0, ne_lt1, ne_lt2, ne_lt3, ne_lt4, upd_listA, upd_tabA, upd_fam, cs] at O | simp only [sel, rst, List.cons_append, List.nil_append, World.size_alloc, size_ext, World.size_setCell, size_setMap, World.size_drew, size_drewN, upd, List.set_cons_zero, List.set_cons_succ, if_true, if_false, reduceIte, not_false_eq_true, ne_lt0, ne_lt1, ne_lt2, ne_lt3, ne_lt4, upd_listA, upd_tabA, upd_fam] at O | skip)
            (try clear cs)
            (try clear v1)
            (try clear v2)
            (try clear v3)
            generalize w2_53.heap.size = p2_55 at O ⊢
            refine hK.out _ _ (O.sel [false, false, false, false, false, true, true, true]) (fun _ => ?_)
            clear hK K
            revert O
            exact hT2_0.out p2_55 q2_52 w2_54
        case' tail =>
          intro q2_56 q2_57 w2_58 O
        refine wpAnyH_ready (rs := [16]) (by kernel_rfl) (by simp) ?_
        refine consH rfl (fun K hK => ?_) AllReadyH.nil
        have cs := O.facts
        simp only [factsP, cellsP, roomP, foots_cons, foots_nil, foots_append, foot_pt, ptb, ptb_mapA, foot_mapA, factsP_mapA, foot_bun, List.append_nil, List.nil_append, List.cons_append, List.nodup_cons, List.nodup_nil, List.mem_cons, List.not_mem_nil, List.mem_singleton, List.forall_mem_cons, not_or, not_false_eq_true, and_true, true_and, or_false, false_or, forall_eq_or_imp, forall_eq, implies_true, Nat.zero_add, Nat.reduceAdd, and_assoc, ptb_listA, factsP_listA, upd_listA, ptb_tabA, factsP_tabA, upd_tabA, Nat.mul_one, hdCells, ptb_fam, factsP_fam, upd_fam] at cs
        have v1 := PT.out _ _ O (by simp [Tk.sel])
        try simp only [cellsQ, roomP, and_assoc, and_true, true_and, Nat.add_zero, Nat.zero_add, Nat.reduceAdd, factsP, cellsP, roomP, foots_cons, foots_nil, foots_append, foot_pt, ptb, ptb_mapA, foot_mapA, factsP_mapA, foot_bun, List.append_nil, List.nil_append, List.cons_append, List.nodup_cons, List.nodup_nil, List.mem_cons, List.not_mem_nil, List.mem_singleton, List.forall_mem_cons, not_or, not_false_eq_true, and_true, true_and, or_false, false_or, forall_eq_or_imp, forall_eq, implies_true, Nat.zero_add, Nat.reduceAdd, and_assoc, ptb_listA, factsP_listA, upd_listA, ptb_tabA, factsP_tabA, upd_tabA, Nat.mul_one, hdCells, ptb_fam, factsP_fam, upd_fam] at v1
        go_simp
        apply Mem.atK
        case h => repeat' (first | (with_reducible exact O) | (with_reducible apply Mem.drew) | (with_reducible apply Mem.drewN) | (with_reducible apply Mem.ext) | (with_reducible apply Mem.alloc) | (with_reducible apply Mem.setCell) | (simp only [ptb, ptb_upd, foots_cons, List.mem_cons, World.size_alloc, size_ext, World.size_setCell, true_or, or_true, eq_self_iff_true, ptb_listA, ptb_tabA, ptb_fam]))
        intro w2_59 O'
        (try clear O)
        have O := O'
        clear O'
        (first | simp only [sel, rst, List.cons_append, List.nil_append, World.size_alloc, size_ext, World.size_setCell, size_setMap, World.size_drew, size_drewN, upd, List.set_cons_zero, List.set_cons_succ, if_true, if_false, reduceIte, not_false_eq_true, ne_lt0, ne_lt1, ne_lt2, ne_lt3, ne_lt4, upd_listA, upd_tabA, upd_fam, cs] at O | simp only [sel, rst, List.cons_append, List.nil_append, World.size_alloc, size_ext, World.size_setCell, size_setMap, World.size_drew, size_drewN, upd, List.set_cons_zero, List.set_cons_succ, if_true, if_false, reduceIte, not_false_eq_true, ne_lt0, ne_lt1, ne_lt2, ne_lt3, ne_lt4, upd_listA, upd_tabA, upd_fam] at O | skip)
        (try clear cs)
        (try clear v1)
        (try clear v2)
        (try clear v3)
        refine hK.out _ _ (O.sel [false, false, false, false, false, true, true, true]) (fun _ => ?_)
        clear hK K
        refine wpAnyH_ready (rs := [17]) (by kernel_rfl) (by simp) ?_
        refine consH rfl (fun K hK => ?_) AllReadyH.nil
        have cs := O.facts
        simp only [factsP, cellsP, roomP, foots_cons, foots_nil, foots_append, foot_pt, ptb, ptb_mapA, foot_mapA, factsP_mapA, foot_bun, List.append_nil, List.nil_append, List.cons_append, List.nodup_cons, List.nodup_nil, List.mem_cons, List.not_mem_nil, List.mem_singleton, List.forall_mem_cons, not_or, not_false_eq_true, and_true, true_and, or_false, false_or, forall_eq_or_imp, forall_eq, implies_true, Nat.zero_add, Nat.reduceAdd, and_assoc, ptb_listA, factsP_listA, upd_listA, ptb_tabA, factsP_tabA, upd_tabA, Nat.mul_one, hdCells, ptb_fam, factsP_fam, upd_fam] at cs
        have v1 := PT.out _ _ O (by simp [Tk.sel])
        try simp only [cellsQ, roomP, and_assoc, and_true, true_and, Nat.add_zero, Nat.zero_add, Nat.reduceAdd, factsP, cellsP, roomP, foots_cons, foots_nil, foots_append, foot_pt, ptb, ptb_mapA, foot_mapA, factsP_mapA, foot_bun, List.append_nil, List.nil_append, List.cons_append, List.nodup_cons, List.nodup_nil, List.mem_cons, List.not_mem_nil, List.mem_singleton, List.forall_mem_cons, not_or, not_false_eq_true, and_true, true_and, or_false, false_or, forall_eq_or_imp, forall_eq, implies_true, Nat.zero_add, Nat.reduceAdd, and_assoc, ptb_listA, factsP_listA, upd_listA, ptb_tabA, factsP_tabA, upd_tabA, Nat.mul_one, hdCells, ptb_fam, factsP_fam, upd_fam] at v1
        go_simp
        apply Mem.atK
        case h => repeat' (first | (with_reducible exact O) | (with_reducible apply Mem.drew) | (with_reducible apply Mem.drewN) | (with_reducible apply Mem.ext) | (with_reducible apply Mem.alloc) | (with_reducible apply Mem.setCell) | (simp only [ptb, ptb_upd, foots_cons, List.mem_cons, World.size_alloc, size_ext, World.size_setCell, true_or, or_true, eq_self_iff_true, ptb_listA, ptb_tabA, ptb_fam]))
        intro w2_60 O'
        (try clear O)
        have O := O'
        clear O'
        (first | simp only [sel, rst, List.cons_append, List.nil_append, World.size_alloc, size_ext, World.size_setCell, size_setMap, World.size_drew, size_drewN, upd, List.set_cons_zero, List.set_cons_succ, if_true, if_false, reduceIte, not_false_eq_true, ne_lt0, ne_lt1, ne_lt2, ne_lt3, ne_lt4, upd_listA, upd_tabA, upd_fam, cs] at O | simp only [sel, rst, List.cons_append, List.nil_append, World.size_alloc, size_ext, World.size_setCell, size_setMap, World.size_drew, size_drewN, upd, List.set_cons_zero, List.set_cons_succ, if_true, if_false, reduceIte, not_false_eq_true, ne_lt0, ne_lt1, ne_lt2, ne_lt3, ne_lt4, upd_listA, upd_tabA, upd_fam] at O | skip)
        (try clear cs)
        (try clear v1)
        (try clear v2)
        (try clear v3)
        refine hK.out _ _ (O.sel [false, false, false, false, false, true, true, true]) (fun _ => ?_)
        clear hK K
        refine takeH (i := 18) (v := ?v2_61) rfl (by kernel_rfl) (by kernel_rfl) (by kernel_rfl) (fun _ _ _ h => h) (by rfl) ?y2_61 (O.sel [false, false, false, false, false, true, true, true]) ?r2_61
        case y2_61 =>
          intro WW hSw
          (go_simp) <;> (with_reducible rfl)
        case' r2_61 =>
          try simp only [Act.put, List.setIfInBounds_toArray, List.set_cons_zero, List.set_cons_succ]
        refine takeH (i := 19) (v := ?v2_62) rfl (by kernel_rfl) (by kernel_rfl) (by kernel_rfl) (fun _ _ _ h => h) (by rfl) ?y2_62 (O.sel [false, false, false, false, false, true, true, true]) ?r2_62
        case y2_62 =>
          intro WW hSw
          (go_simp) <;> (with_reducible rfl)
        case' r2_62 =>
          try simp only [Act.put, List.setIfInBounds_toArray, List.set_cons_zero, List.set_cons_succ]
        refine wpAnyH_done (by kernel_rfl) ?_ _
        skip
        have cs := O.facts
        try simp only [factsP, cellsP, roomP, foots_cons, foots_nil, foots_append, foot_pt, ptb, ptb_mapA, foot_mapA, factsP_mapA, foot_bun, List.append_nil, List.nil_append, List.cons_append, List.nodup_cons, List.nodup_nil, List.mem_cons, List.not_mem_nil, List.mem_singleton, List.forall_mem_cons, not_or, not_false_eq_true, and_true, true_and, or_false, false_or, forall_eq_or_imp, forall_eq, implies_true, Nat.zero_add, Nat.reduceAdd, and_assoc, ptb_listA, factsP_listA, upd_listA, ptb_tabA, factsP_tabA, upd_tabA, Nat.mul_one, hdCells, ptb_fam, factsP_fam, upd_fam] at cs
        go_upto_region 12 with fail
        cases ai
        · have hte : takeV (sv, ⟨sr, sn⟩, si) ⟨false, ⟨ar, an⟩, av⟩ = (sv, ⟨sr, sn⟩, si) := by simp [takeV]
          rw [hte] at HTAKE
          have cs := O.facts
          try simp only [factsP, cellsP, roomP, foots_cons, foots_nil, foots_append, foot_pt, ptb, ptb_mapA, foot_mapA, factsP_mapA, foot_bun, List.append_nil, List.nil_append, List.cons_append, List.nodup_cons, List.nodup_nil, List.mem_cons, List.not_mem_nil, List.mem_singleton, List.forall_mem_cons, not_or, not_false_eq_true, and_true, true_and, or_false, false_or, forall_eq_or_imp, forall_eq, implies_true, Nat.zero_add, Nat.reduceAdd, and_assoc, ptb_listA, factsP_listA, upd_listA, ptb_tabA, factsP_tabA, upd_tabA, Nat.mul_one, hdCells, ptb_fam, factsP_fam, upd_fam] at cs
          go_wp2_with fail
          replace O := (((((((O).front [false, false, false, false, false, false, false, false, true]).front [false, false, false, false, false, false, false, false, true]).front [false, false, false, false, false, false, false, false, true]).front [false, false, false, false, false, false, false, false, true]).front [false, false, false, false, false, false, false, false, true]).front [false, false, false, false, false, false, false, false, true]).front [false, false, false, false, false, false, false, false, true]
          simp only [Tk.sel, rst, List.cons_append, List.nil_append] at O
          replace O := O.sel [true, true, true, true, true, true, true]
          simp only [Tk.sel] at O
          replace O := Mem.famPut (f := tabF) (a' := ⟨tbk, mbk, m2⟩) O (List.getElem?_eq_some_iff.1 HTT.out).1
          replace O := ((((((O).front [false, false, false, false, false, true]).front [false, true]).front [false, false, false, false, false, true]).front [false, false, false, false, false, true]).front [false, false, false, false, false, true]).front [false, false, false, false, false, true]
          simp only [Tk.sel, rst, List.cons_append, List.nil_append] at O
          replace O := O.sel [true, true, true, true, true, true]
          simp only [Tk.sel] at O
          go_roundw
          case rel => exact ⟨k + 1, _, by omega, by go_num, by rw [HTAKE.out], by rw [HTAKE.out], HSET.out, by rw [HTAKE.out]; exact O⟩
          case measure => simp [intOf]; omega
        · cases si
          · have hte : takeV (sv, ⟨sr, sn⟩, false) ⟨true, ⟨ar, an⟩, av⟩ = (av, ⟨ar, an⟩, true) := by simp [takeV]
            rw [hte] at HTAKE
            have cs := O.facts
            try simp only [factsP, cellsP, roomP, foots_cons, foots_nil, foots_append, foot_pt, ptb, ptb_mapA, foot_mapA, factsP_mapA, foot_bun, List.append_nil, List.nil_append, List.cons_append, List.nodup_cons, List.nodup_nil, List.mem_cons, List.not_mem_nil, List.mem_singleton, List.forall_mem_cons, not_or, not_false_eq_true, and_true, true_and, or_false, false_or, forall_eq_or_imp, forall_eq, implies_true, Nat.zero_add, Nat.reduceAdd, and_assoc, ptb_listA, factsP_listA, upd_listA, ptb_tabA, factsP_tabA, upd_tabA, Nat.mul_one, hdCells, ptb_fam, factsP_fam, upd_fam] at cs
            go_upto_region 8 with fail
            first | apply Mem.atCall | apply Mem.atCode | apply Mem.atList
            case h => repeat' (first | (with_reducible exact O) | (with_reducible apply Mem.drew) | (with_reducible apply Mem.drewN) | (with_reducible apply Mem.ext) | (with_reducible apply Mem.alloc) | (with_reducible apply Mem.setCell) | (simp only [ptb, ptb_upd, foots_cons, List.mem_cons, World.size_alloc, size_ext, World.size_setCell, true_or, or_true, eq_self_iff_true, ptb_listA, ptb_tabA, ptb_fam]))
            case' k =>
              intro w7 O'
              (try clear O)
              have O := O'
              clear O'
              (first | simp only [sel, rst, List.cons_append, List.nil_append, World.size_alloc, size_ext, World.size_setCell, size_setMap, World.size_drew, size_drewN, upd, List.set_cons_zero, List.set_cons_succ, if_true, if_false, reduceIte, not_false_eq_true, ne_lt0, ne_lt1, ne_lt2, ne_lt3, ne_lt4, upd_listA, upd_tabA, upd_fam, cs] at O | simp only [sel, rst, List.cons_append, List.nil_append, World.size_alloc, size_ext, World.size_setCell, size_setMap, World.size_drew, size_drewN, upd, List.set_cons_zero, List.set_cons_succ, if_true, if_false, reduceIte, not_false_eq_true, ne_lt0, ne_lt1, ne_lt2, ne_lt3, ne_lt4, upd_listA, upd_tabA, upd_fam] at O | skip)
              (try clear cs)
              (try clear v1)
              (try clear v2)
              (try clear v3)
            have cs := O.facts
            try simp only [factsP, cellsP, roomP, foots_cons, foots_nil, foots_append, foot_pt, ptb, ptb_mapA, foot_mapA, factsP_mapA, foot_bun, List.append_nil, List.nil_append, List.cons_append, List.nodup_cons, List.nodup_nil, List.mem_cons, List.not_mem_nil, List.mem_singleton, List.forall_mem_cons, not_or, not_false_eq_true, and_true, true_and, or_false, false_or, forall_eq_or_imp, forall_eq, implies_true, Nat.zero_add, Nat.reduceAdd, and_assoc, ptb_listA, factsP_listA, upd_listA, ptb_tabA, factsP_tabA, upd_tabA, Nat.mul_one, hdCells, ptb_fam, factsP_fam, upd_fam] at cs
            go_wp2_with fail
            replace O := (((((((O).front [false, false, false, false, false, false, false, false, true]).front [false, false, false, false, false, false, false, false, true]).front [false, false, false, false, false, false, false, false, true]).front [false, false, false, false, false, false, false, false, true]).front [false, false, false, false, false, false, false, false, true]).front [false, false, false, false, false, false, false, false, true]).front [false, false, false, false, false, false, false, false, true]
            simp only [Tk.sel, rst, List.cons_append, List.nil_append] at O
            replace O := O.sel [true, true, true, true, true, true, true]
            simp only [Tk.sel] at O
            replace O := Mem.famPut (f := tabF) (a' := ⟨tbk, mbk, m2⟩) O (List.getElem?_eq_some_iff.1 HTT.out).1
            replace O := ((((((O).front [false, false, false, false, false, true]).front [false, true]).front [false, false, false, false, false, true]).front [false, false, false, false, false, true]).front [false, false, false, false, false, true]).front [false, false, false, false, false, true]
            simp only [Tk.sel, rst, List.cons_append, List.nil_append] at O
            replace O := O.sel [true, true, true, true, true, true]
            simp only [Tk.sel] at O
            go_roundw
            case rel => exact ⟨k + 1, _, by omega, by go_num, by rw [HTAKE.out], by rw [HTAKE.out], HSET.out, by rw [HTAKE.out]; exact O⟩
            case measure => simp [intOf]; omega
          · have CLE := Lib.hid (fun W => CL.out W ⟨sr, sn⟩ ⟨ar, an⟩)
            obtain ⟨le, hle⟩ : ∃ le, le = less ⟨sr, sn⟩ ⟨ar, an⟩ := ⟨_, rfl⟩
            simp only [Ballot.val, ← hle] at CLE
            have HLE := Lib.hid hle
            clear hle
            have cs := O.facts
            try simp only [factsP, cellsP, roomP, foots_cons, foots_nil, foots_append, foot_pt, ptb, ptb_mapA, foot_mapA, factsP_mapA, foot_bun, List.append_nil, List.nil_append, List.cons_append, List.nodup_cons, List.nodup_nil, List.mem_cons, List.not_mem_nil, List.mem_singleton, List.forall_mem_cons, not_or, not_false_eq_true, and_true, true_and, or_false, false_or, forall_eq_or_imp, forall_eq, implies_true, Nat.zero_add, Nat.reduceAdd, and_assoc, ptb_listA, factsP_listA, upd_listA, ptb_tabA, factsP_tabA, upd_tabA, Nat.mul_one, hdCells, ptb_fam, factsP_fam, upd_fam] at cs
            go_wp2_with fail
            first | apply Mem.atCall | apply Mem.atCode | apply Mem.atList
            case h => repeat' (first | (with_reducible exact O) | (with_reducible apply Mem.drew) | (with_reducible apply Mem.drewN) | (with_reducible apply Mem.ext) | (with_reducible apply Mem.alloc) | (with_reducible apply Mem.setCell) | (simp only [ptb, ptb_upd, foots_cons, List.mem_cons, World.size_alloc, size_ext, World.size_setCell, true_or, or_true, eq_self_iff_true, ptb_listA, ptb_tabA, ptb_fam]))
            case' k =>
              intro w7 O'
              (try clear O)
              have O := O'
              clear O'
              (first | simp only [sel, rst, List.cons_append, List.nil_append, World.size_alloc, size_ext, World.size_setCell, size_setMap, World.size_drew, size_drewN, upd, List.set_cons_zero, List.set_cons_succ, if_true, if_false, reduceIte, not_false_eq_true, ne_lt0, ne_lt1, ne_lt2, ne_lt3, ne_lt4, upd_listA, upd_tabA, upd_fam, cs] at O | simp only [sel, rst, List.cons_append, List.nil_append, World.size_alloc, size_ext, World.size_setCell, size_setMap, World.size_drew, size_drewN, upd, List.set_cons_zero, List.set_cons_succ, if_true, if_false, reduceIte, not_false_eq_true, ne_lt0, ne_lt1, ne_lt2, ne_lt3, ne_lt4, upd_listA, upd_tabA, upd_fam] at O | skip)
              (try clear cs)
              (try clear v1)
              (try clear v2)
              (try clear v3)
            refine (CLE.out _).mono ?_
            rintro e w8 ⟨rfl, o⟩
            replace O := O.callp [] o
            clear o
            simp only [put, List.cons_append, List.nil_append] at O
            cases le
            · have hte : takeV (sv, ⟨sr, sn⟩, true) ⟨true, ⟨ar, an⟩, av⟩ = (sv, ⟨sr, sn⟩, true) := by simp [takeV, ← HLE.out]
              rw [hte] at HTAKE
              clear HLE hte
              have cs := O.facts
              try simp only [factsP, cellsP, roomP, foots_cons, foots_nil, foots_append, foot_pt, ptb, ptb_mapA, foot_mapA, factsP_mapA, foot_bun, List.append_nil, List.nil_append, List.cons_append, List.nodup_cons, List.nodup_nil, List.mem_cons, List.not_mem_nil, List.mem_singleton, List.forall_mem_cons, not_or, not_false_eq_true, and_true, true_and, or_false, false_or, forall_eq_or_imp, forall_eq, implies_true, Nat.zero_add, Nat.reduceAdd, and_assoc, ptb_listA, factsP_listA, upd_listA, ptb_tabA, factsP_tabA, upd_tabA, Nat.mul_one, hdCells, ptb_fam, factsP_fam, upd_fam] at cs
              go_wp2_with fail
              replace O := (((((((O).front [false, false, false, false, false, false, false, false, true]).front [false, false, false, false, false, false, false, false, true]).front [false, false, false, false, false, false, false, false, true]).front [false, false, false, false, false, false, false, false, true]).front [false, false, false, false, false, false, false, false, true]).front [false, false, false, false, false, false, false, false, true]).front [false, false, false, false, false, false, false, false, true]
              simp only [Tk.sel, rst, List.cons_append, List.nil_append] at O
              replace O := O.sel [true, true, true, true, true, true, true]
              simp only [Tk.sel] at O
              replace O := Mem.famPut (f := tabF) (a' := ⟨tbk, mbk, m2⟩) O (List.getElem?_eq_some_iff.1 HTT.out).1
              replace O := ((((((O).front [false, false, false, false, false, true]).front [false, true]).front [false, false, false, false, false, true]).front [false, false, false, false, false, true]).front [false, false, false, false, false, true]).front [false, false, false, false, false, true]
              simp only [Tk.sel, rst, List.cons_append, List.nil_append] at O
              replace O := O.sel [true, true, true, true, true, true]
              simp only [Tk.sel] at O
              go_roundw
              case rel => exact ⟨k + 1, _, by omega, by go_num, by rw [HTAKE.out], by rw [HTAKE.out], HSET.out, by rw [HTAKE.out]; exact O⟩
              case measure => simp [intOf]; omega
            · have hte : takeV (sv, ⟨sr, sn⟩, true) ⟨true, ⟨ar, an⟩, av⟩ = (av, ⟨ar, an⟩, true) := by simp [takeV, ← HLE.out]
              rw [hte] at HTAKE
              clear HLE hte
              have cs := O.facts
              try simp only [factsP, cellsP, roomP, foots_cons, foots_nil, foots_append, foot_pt, ptb, ptb_mapA, foot_mapA, factsP_mapA, foot_bun, List.append_nil, List.nil_append, List.cons_append, List.nodup_cons, List.nodup_nil, List.mem_cons, List.not_mem_nil, List.mem_singleton, List.forall_mem_cons, not_or, not_false_eq_true, and_true, true_and, or_false, false_or, forall_eq_or_imp, forall_eq, implies_true, Nat.zero_add, Nat.reduceAdd, and_assoc, ptb_listA, factsP_listA, upd_listA, ptb_tabA, factsP_tabA, upd_tabA, Nat.mul_one, hdCells, ptb_fam, factsP_fam, upd_fam] at cs
              go_upto_region 8 with fail
              first | apply Mem.atCall | apply Mem.atCode | apply Mem.atList
              case h => repeat' (first | (with_reducible exact O) | (with_reducible apply Mem.drew) | (with_reducible apply Mem.drewN) | (with_reducible apply Mem.ext) | (with_reducible apply Mem.alloc) | (with_reducible apply Mem.setCell) | (simp only [ptb, ptb_upd, foots_cons, List.mem_cons, World.size_alloc, size_ext, World.size_setCell, true_or, or_true, eq_self_iff_true, ptb_listA, ptb_tabA, ptb_fam]))
              case' k =>
                intro w9 O'
                (try clear O)
                have O := O'
                clear O'
                (first | simp only [sel, rst, List.cons_append, List.nil_append, World.size_alloc, size_ext, World.size_setCell, size_setMap, World.size_drew, size_drewN, upd, List.set_cons_zero, List.set_cons_succ, if_true, if_false, reduceIte, not_false_eq_true, ne_lt0, ne_lt1, ne_lt2, ne_lt3, ne_lt4, upd_listA, upd_tabA, upd_fam, cs] at O | simp only [sel, rst, List.cons_append, List.nil_append, World.size_alloc, size_ext, World.size_setCell, size_setMap, World.size_drew, size_drewN, upd, List.set_cons_zero, List.set_cons_succ, if_true, if_false, reduceIte, not_false_eq_true, ne_lt0, ne_lt1, ne_lt2, ne_lt3, ne_lt4, upd_listA, upd_tabA, upd_fam] at O | skip)
                (try clear cs)
                (try clear v1)
                (try clear v2)
                (try clear v3)
              have cs := O.facts
              try simp only [factsP, cellsP, roomP, foots_cons, foots_nil, foots_append, foot_pt, ptb, ptb_mapA, foot_mapA, factsP_mapA, foot_bun, List.append_nil, List.nil_append, List.cons_append, List.nodup_cons, List.nodup_nil, List.mem_cons, List.not_mem_nil, List.mem_singleton, List.forall_mem_cons, not_or, not_false_eq_true, and_true, true_and, or_false, false_or, forall_eq_or_imp, forall_eq, implies_true, Nat.zero_add, Nat.reduceAdd, and_assoc, ptb_listA, factsP_listA, upd_listA, ptb_tabA, factsP_tabA, upd_tabA, Nat.mul_one, hdCells, ptb_fam, factsP_fam, upd_fam] at cs
              go_wp2_with fail
              replace O := (((((((O).front [false, false, false, false, false, false, false, false, true]).front [false, false, false, false, false, false, false, false, true]).front [false, false, false, false, false, false, false, false, true]).front [false, false, false, false, false, false, false, false, true]).front [false, false, false, false, false, false, false, false, true]).front [false, false, false, false, false, false, false, false, true]).front [false, false, false, false, false, false, false, false, true]
              simp only [Tk.sel, rst, List.cons_append, List.nil_append] at O
              replace O := O.sel [true, true, true, true, true, true, true]
              simp only [Tk.sel] at O
              replace O := Mem.famPut (f := tabF) (a' := ⟨tbk, mbk, m2⟩) O (List.getElem?_eq_some_iff.1 HTT.out).1
              replace O := ((((((O).front [false, false, false, false, false, true]).front [false, true]).front [false, false, false, false, false, true]).front [false, false, false, false, false, true]).front [false, false, false, false, false, true]).front [false, false, false, false, false, true]
              simp only [Tk.sel, rst, List.cons_append, List.nil_append] at O
              replace O := O.sel [true, true, true, true, true, true]
              simp only [Tk.sel] at O
              go_roundw
              case rel => exact ⟨k + 1, _, by omega, by go_num, by rw [HTAKE.out], by rw [HTAKE.out], HSET.out, by rw [HTAKE.out]; exact O⟩
              case measure => simp [intOf]; omega
    · obtain rfl : k = 3 := by omega
      have hkf : ((3 : Int) < 3) = False := by simp
      skip
      have cs := O.facts
      try simp only [factsP, cellsP, roomP, foots_cons, foots_nil, foots_append, foot_pt, ptb, ptb_mapA, foot_mapA, factsP_mapA, foot_bun, List.append_nil, List.nil_append, List.cons_append, List.nodup_cons, List.nodup_nil, List.mem_cons, List.not_mem_nil, List.mem_singleton, List.forall_mem_cons, not_or, not_false_eq_true, and_true, true_and, or_false, false_or, forall_eq_or_imp, forall_eq, implies_true, Nat.zero_add, Nat.reduceAdd, and_assoc, ptb_listA, factsP_listA, upd_listA, ptb_tabA, factsP_tabA, upd_tabA, Nat.mul_one, hdCells, ptb_fam, factsP_fam, upd_fam] at cs
      go_wp2_with fail
      clear cs
      replace O := ((((O).front [false, false, false, false, false, true]).front [false, false, false, false, false, true]).front [false, false, false, false, false, true]).front [false, false, false, false, false, true]
      simp only [Tk.sel, rst, List.cons_append, List.nil_append] at O
      replace O := O.sel [true, true, true, true]
      simp only [Tk.sel] at O
      obtain ⟨P, hPe⟩ : ∃ P, P = prepTo wd.next ⟨id, bk, r, 0⟩ ⟨wd.round + 1, by_⟩ out 3 := ⟨_, rfl⟩
      obtain ⟨e1, e2, e3⟩ := prepTo_rest wd.next ⟨id, bk, r, 0⟩ ⟨wd.round + 1, by_⟩ out 3
      rw [← hPe] at e1 e2 e3 HTk
      have HPE := Lib.hid hPe
      rw [show wd.next.l = wd.l from rfl] at e2
      rw [show wd.next.round = wd.round + 1 from rfl] at e3
      rw [← e2] at O HC HL
      clear hPe e1 e2
      generalize hvv : (takeTo wd ⟨id, bk, r, 0⟩ out 3).1 = vv at *
      have HVV := Lib.hid hvv
      clear hvv
      have HR3 := Lib.hid e3
      clear e3 HT PR CL
      rw [show (((3 : Nat)) : Int) = 3 from rfl]
      go_loopw [20] (fun s20 wr => ∃ (k : Nat) (ts' : List TabM) (ws' : List Value) (LA' : Option Addr) (lc' : Nat), k ≤ 3 ∧ s20 = .int .i64 k ∧ Wc ws' id (some ⟨bx, ox, none⟩) tn tc pt pm own (wd.round + 1) LA' (accTo P ⟨id, bk, r, 0⟩ ⟨wd.round + 1, by_⟩ vv out k).l.length lc' ∧ Tabs ts' pt (accTo P ⟨id, bk, r, 0⟩ ⟨wd.round + 1, by_⟩ vv out k).acc ∧ Mem w fp wr [.pt bb [.int .u32 (wd.round + 1), .int .u8 (by_ : Int)] 47, .pt xb ws' 83, fam tabF ts', hdA LA' lc' (accTo P ⟨id, bk, r, 0⟩ ⟨wd.round + 1, by_⟩ vv out k).l]) (fun s20 _ => 3 - (intOf s20).toNat)
      case atStart => exact ⟨0, ts', ws, LA, lc, by omega, rfl, HC.out, HTk.out, O⟩
      case round =>
        clear O HTk HC
        obtain ⟨k, ts', ws, LA, lc, hk3, rfl, hC, hT, O⟩ := hrel
        have HTk := Lib.hid hT
        have HC := Lib.hid hC
        clear hT hC
        by_cases hk : k < 3
        · have hki : (k : Int) < 3 := by omega
          have hki' : ((k : Int) < 3) = True := by simp [hki]
          by_cases hko : k = out
          · have hkoi : ((k : Int) == (out : Int)) = true := by simp [hko]
            have hkoj : ((k : Int) != (out : Int)) = false := by simp [hko]
            subst hko
            skip
            have cs := O.facts
            try simp only [factsP, cellsP, roomP, foots_cons, foots_nil, foots_append, foot_pt, ptb, ptb_mapA, foot_mapA, factsP_mapA, foot_bun, List.append_nil, List.nil_append, List.cons_append, List.nodup_cons, List.nodup_nil, List.mem_cons, List.not_mem_nil, List.mem_singleton, List.forall_mem_cons, not_or, not_false_eq_true, and_true, true_and, or_false, false_or, forall_eq_or_imp, forall_eq, implies_true, Nat.zero_add, Nat.reduceAdd, and_assoc, ptb_listA, factsP_listA, upd_listA, ptb_tabA, factsP_tabA, upd_tabA, Nat.mul_one, hdCells, ptb_fam, factsP_fam, upd_fam] at cs
            go_wp2_with fail
            go_roundw
            case rel =>
              exact ⟨k + 1, ts', ws, LA, lc, by omega, by go_num, by simp [accTo]; exact HC.out, by simp [accTo]; exact HTk.out, by simp [accTo]; exact O⟩
            case measure => simp [intOf]; omega
          · have hkoi : ((k : Int) == (out : Int)) = false := by simp; omega
            have hkoj : ((k : Int) != (out : Int)) = true := by simp; omega
            obtain ⟨T, hTk, hTp, hTm⟩ := HTk.out.get hk
            replace O := ((((O).front [false, false, false, true]).front [false, false, true]).front [false, false, true]).front [false, false, false, true]
            simp only [Tk.sel, rst, List.cons_append, List.nil_append] at O
            replace O := O.sel [true, true, true, true]
            simp only [Tk.sel] at O
            replace O := O.famTake hTk
            have HTT := Lib.hid hTk
            have hset := HTk.out.set hTk
            obtain ⟨tbk, mbk, m⟩ := T
            simp only at hTm hTp hset
            have hll : (accTo P ⟨id, bk, r, 0⟩ ⟨wd.round + 1, by_⟩ vv out k).l.length ≤ 100000 := by
              have := (accTo_rest P ⟨id, bk, r, 0⟩ ⟨wd.round + 1, by_⟩ vv out k).2.2
              have := HL.out
              omega
            have CA := Lib.hid (fun W hW hx => w_accept W xb ws id bx ox tn tc pt pm own (wd.round + 1) LA lc _ HC.out tbk mbk m hW i r k bk ⟨wd.round + 1, by_⟩ vv hx HI.out hk hTp HW.out hll)
            have HSET := Lib.hid (show Tabs (ts'.set k ⟨tbk, mbk, (accept10 4096 m ⟨id, bk, r, 0⟩ ⟨wd.round + 1, by_⟩ vv).2.2.2⟩) pt (accTo P ⟨id, bk, r, 0⟩ ⟨wd.round + 1, by_⟩ vv out (k + 1)).acc by
              have := hset (accept10 4096 m ⟨id, bk, r, 0⟩ ⟨wd.round + 1, by_⟩ vv).2.2.2
              simp only [accTo, if_neg hko, Wd.accept]
              rw [hTm] at this ⊢
              exact this)
            have HL1 := Lib.hid (show (accTo P ⟨id, bk, r, 0⟩ ⟨wd.round + 1, by_⟩ vv out (k + 1)).l = if (accept10 4096 m ⟨id, bk, r, 0⟩ ⟨wd.round + 1, by_⟩ vv).2.1 then (accTo P ⟨id, bk, r, 0⟩ ⟨wd.round + 1, by_⟩ vv out k).l ++ [⟨⟨id, bk, r, 0⟩, k, ⟨wd.round + 1, by_⟩, vv⟩] else (accTo P ⟨id, bk, r, 0⟩ ⟨wd.round + 1, by_⟩ vv out k).l by
              simp only [accTo, if_neg hko, Wd.accept]
              rw [hTm])
            clear hset hll hTm hTp hTk
            simp only [tabF] at O
            simp only [Ballot.val] at CA
            replace O := (((((O).front [false, false, true]).front [false, false, true]).front [false, false, false, false, true]).front [false, false, false, true]).front [false, false, false, false, true]
            simp only [Tk.sel, rst, List.cons_append, List.nil_append] at O
            replace O := O.sel [true, true, true, true, true]
            simp only [Tk.sel] at O
            skip
            have cs := O.facts
            try simp only [factsP, cellsP, roomP, foots_cons, foots_nil, foots_append, foot_pt, ptb, ptb_mapA, foot_mapA, factsP_mapA, foot_bun, List.append_nil, List.nil_append, List.cons_append, List.nodup_cons, List.nodup_nil, List.mem_cons, List.not_mem_nil, List.mem_singleton, List.forall_mem_cons, not_or, not_false_eq_true, and_true, true_and, or_false, false_or, forall_eq_or_imp, forall_eq, implies_true, Nat.zero_add, Nat.reduceAdd, and_assoc, ptb_listA, factsP_listA, upd_listA, ptb_tabA, factsP_tabA, upd_tabA, Nat.mul_one, hdCells, ptb_fam, factsP_fam, upd_fam] at cs
            go_wp2_with fail
            first | apply Mem.atCall | apply Mem.atCode | apply Mem.atList
            case h => repeat' (first | (with_reducible exact O) | (with_reducible apply Mem.drew) | (with_reducible apply Mem.drewN) | (with_reducible apply Mem.ext) | (with_reducible apply Mem.alloc) | (with_reducible apply Mem.setCell) | (simp only [ptb, ptb_upd, foots_cons, List.mem_cons, World.size_alloc, size_ext, World.size_setCell, true_or, or_true, eq_self_iff_true, ptb_listA, ptb_tabA, ptb_fam]))
            case' k =>
              intro w5 O'
              (try clear O)
              have O := O'
              clear O'
              (first | simp only [sel, rst, List.cons_append, List.nil_append, World.size_alloc, size_ext, World.size_setCell, size_setMap, World.size_drew, size_drewN, upd, List.set_cons_zero, List.set_cons_succ, if_true, if_false, reduceIte, not_false_eq_true, ne_lt0, ne_lt1, ne_lt2, ne_lt3, ne_lt4, upd_listA, upd_tabA, upd_fam, cs] at O | simp only [sel, rst, List.cons_append, List.nil_append, World.size_alloc, size_ext, World.size_setCell, size_setMap, World.size_drew, size_drewN, upd, List.set_cons_zero, List.set_cons_succ, if_true, if_false, reduceIte, not_false_eq_true, ne_lt0, ne_lt1, ne_lt2, ne_lt3, ne_lt4, upd_listA, upd_tabA, upd_fam] at O | skip)
              (try clear cs)
              (try clear v1)
              (try clear v2)
              (try clear v3)
            refine (CA.out _ (O.pre [true, true, true]) (fun W' f => HX.out _ (O.frOf [true, true, true] f))).mono ?_
            rintro e w6 ⟨rfl, ws2, LA2, lc2, hc2, o⟩
            replace O := O.callp [true, true, true] o
            clear o
            simp only [put, List.cons_append, List.nil_append] at O
            rw [← HL1.out] at O hc2
            have cs := O.facts
            try simp only [factsP, cellsP, roomP, foots_cons, foots_nil, foots_append, foot_pt, ptb, ptb_mapA, foot_mapA, factsP_mapA, foot_bun, List.append_nil, List.nil_append, List.cons_append, List.nodup_cons, List.nodup_nil, List.mem_cons, List.not_mem_nil, List.mem_singleton, List.forall_mem_cons, not_or, not_false_eq_true, and_true, true_and, or_false, false_or, forall_eq_or_imp, forall_eq, implies_true, Nat.zero_add, Nat.reduceAdd, and_assoc, ptb_listA, factsP_listA, upd_listA, ptb_tabA, factsP_tabA, upd_tabA, Nat.mul_one, hdCells, ptb_fam, factsP_fam, upd_fam] at cs
            go_wp2_with fail
            replace O := (((((O).front [false, false, true]).front [false, true]).front [false, false, false, false, true]).front [false, false, false, false, true]).front [false, false, false, false, true]
            simp only [Tk.sel, rst, List.cons_append, List.nil_append] at O
            replace O := O.sel [true, true, true, true, true]
            simp only [Tk.sel] at O
            replace O := Mem.famPut (f := tabF) (a' := ⟨tbk, mbk, _⟩) O (List.getElem?_eq_some_iff.1 HTT.out).1
            replace O := ((((O).front [false, false, false, true]).front [false, true]).front [false, false, false, true]).front [false, false, false, true]
            simp only [Tk.sel, rst, List.cons_append, List.nil_append] at O
            replace O := O.sel [true, true, true, true]
            simp only [Tk.sel] at O
            go_roundw
            case rel => exact ⟨k + 1, _, ws2, LA2, lc2, by omega, by go_num, hc2, HSET.out, O⟩
            case measure => simp [intOf]; omega
        · obtain rfl : k = 3 := by omega
          have hkf : ((3 : Int) < 3) = False := by simp
          skip
          have cs := O.facts
          try simp only [factsP, cellsP, roomP, foots_cons, foots_nil, foots_append, foot_pt, ptb, ptb_mapA, foot_mapA, factsP_mapA, foot_bun, List.append_nil, List.nil_append, List.cons_append, List.nodup_cons, List.nodup_nil, List.mem_cons, List.not_mem_nil, List.mem_singleton, List.forall_mem_cons, not_or, not_false_eq_true, and_true, true_and, or_false, false_or, forall_eq_or_imp, forall_eq, implies_true, Nat.zero_add, Nat.reduceAdd, and_assoc, ptb_listA, factsP_listA, upd_listA, ptb_tabA, factsP_tabA, upd_tabA, Nat.mul_one, hdCells, ptb_fam, factsP_fam, upd_fam] at cs
          go_wp2_with fail
          refine bodyPost_end (results_none rfl _ _ _) rfl ⟨rfl, ?_⟩
          rw [← HPE.out, HVV.out]
          refine ⟨ws, LA, lc, ts', ?_, HTk.out, O.sel [false, true, true, true]⟩
          rw [(accTo_rest P ⟨id, bk, r, 0⟩ ⟨wd.round + 1, by_⟩ vv out 3).2.1, HR3.out]
          exact HC.out
end Go.Proofs.Ytplliabmnhigbaa
