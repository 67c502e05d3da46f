/- WALK: a manager's 'votes': those that are chosen. -/
import Derived.Test.YtplliabmnhigbaaKnowN19
import Derived.Test.YtplliabmnhigbaaText19
set_option linter.unusedVariables false
set_option linter.unusedSimpArgs false
namespace Go.Proofs.Ytplliabmnhigbaa
open Go.RowKit Go.Tk
def rowCells (f : Nat → Int) : List Value := [.int .i64 (f 0), .int .i64 (f 1), .int .i64 (f 2), .int .i64 (f 3)]
theorem rowTy : ElTy Try.prog 27 38 4 rowCells (fun _ => 0) := ⟨Try.underlying27, by kernel_rfl, by kernel_rfl, by omega, fun _ => rfl, fun a u h => by simp [rowCells] at h; rcases h with rfl | rfl | rfl | rfl <;> rfl⟩
theorem rowLen (f : Nat → Int) : (rowCells f).length = 4 := rfl
def rowSet (f : Nat → Int) (r : Nat) (v : Int) : Nat → Int := fun j => if j = r then v else f j
theorem rowCells_set (f : Nat → Int) {r : Nat} (hr : r < 4) (v : Int) : rowCells (rowSet f r v) = (rowCells f).set r (.int .i64 v) := by
  have h : r = 0 ∨ r = 1 ∨ r = 2 ∨ r = 3 := by omega
  rcases h with rfl | rfl | rfl | rfl <;> simp [rowCells, rowSet]
theorem row_at {w : World} {A : Option Addr} {c g : Nat} {rows : List (Nat → Int)} (h : (listA 38 4 rowCells (some ⟨g, 0, none⟩) c rows).holds w) {k r : Nat} {f : Nat → Int} (hf : rows[k]? = some f) (hr : r < 4) : roomP g w.heap.size ∧ (∀ j, w.frozen? ⟨g, j, none⟩ = false) ∧ w.cell? ⟨g, k * 4 + r, none⟩ = some (.int .i64 (f r)) := by
  obtain ⟨h1, h2, h3⟩ := listA_at rowLen h hf
  have hv : (rowCells f)[r]? = some (.int .i64 (f r)) := by
    have h : r = 0 ∨ r = 1 ∨ r = 2 ∨ r = 3 := by omega
    rcases h with rfl | rfl | rfl | rfl <;> rfl
  have := cellsQ_at h3 hv
  rw [Nat.zero_add] at this
  exact ⟨h1, h2, this⟩
def plnOf (ls : List (Inst × LnM)) : List (Inst × Learn11) := ls.map (fun x => (x.1, x.2.l))
def voteStep (pls : List (Inst × Learn11)) (rows : List (Nat → Int)) (v : Visit) : List (Nat → Int) :=
  match mget pls v.i with
  | some l => if l.is = true then rows.set v.k (rowSet (rows.getD v.k (fun _ => 0)) v.r (readOf l.chosen)) else rows
  | none => rows
def votesAfter (pls : List (Inst × Learn11)) (n : Nat) (done : List Visit) : List (Nat → Int) := done.foldl (voteStep pls) (List.replicate n (fun _ => 0))
theorem voteStep_len (pls : List (Inst × Learn11)) (rows : List (Nat → Int)) (v : Visit) : (voteStep pls rows v).length = rows.length := by
  unfold voteStep
  split
  · split <;> simp
  · rfl
theorem votesAfter_len (pls : List (Inst × Learn11)) (n : Nat) : ∀ (done : List Visit), (votesAfter pls n done).length = n := by
  intro done
  unfold votesAfter
  have : ∀ (done : List Visit) (rows : List (Nat → Int)), (done.foldl (voteStep pls) rows).length = rows.length := by
    intro done
    induction done with
    | nil => intro rows; rfl
    | cons v done ih => intro rows; rw [List.foldl_cons, ih, voteStep_len]
  rw [this, List.length_replicate]
theorem mget_pln {ls : List (Inst × LnM)} {i : Inst} : mget (plnOf ls) i = (mget ls i).map (·.l) := by
  induction ls with
  | nil => rfl
  | cons x ls ih =>
    simp only [plnOf, List.map_cons] at ih ⊢
    rw [mget_cons, mget_cons, ih]
    by_cases h : x.1 = i <;> simp [h]
theorem mget_ptr {ls : List (Inst × LnM)} {i : Inst} : mget (ls.map lnPtr) i = (mget ls i).map (·.lb) := by
  induction ls with
  | nil => rfl
  | cons x ls ih =>
    rw [List.map_cons, mget_cons, mget_cons, ih]
    simp only [lnPtr]
    by_cases h : x.1 = i <;> simp [h]
theorem lA_Chosen_fam (w : World) (ls : List (Inst × LnM)) (i : Inst) (x : LnM) (h : Pre w [fam lnF ls]) (hx : mget ls i = some x) :
    Calls Try.prog 52 #[.pointer (some ⟨x.lb, 0, none⟩)] w (fun e w' => e = .returned (.tuple #[.string x.l.chosen, .bool x.l.is]) ∧ Mem w [] w' []) := by
  obtain ⟨j, hj⟩ := List.mem_iff_getElem?.1 (mget_mem hx)
  have O := Mem.famTake h hj
  exact lA_Chosen w x.lb x.mb x.l (O.pre [true])
theorem look_ln {W : World} {lb : Nat} {ls : List (Inst × LnM)} (h : MapAt instKey ptrV W lb (ls.map lnPtr)) {i : Inst} (hi : i.wf) : (Instr.lookup 99 (.map (some lb)) i.val false).run Try.prog W = .ok (((mget ls i).map (fun x => ptrV x.lb)).getD (.pointer none)) W := by
  have := h.lookup Try.underlying99 zeroPtrL hi false
  simp only [Bool.false_eq_true, if_false] at this
  rw [show instKey.kv i = i.val from rfl, mget_ptr] at this
  rw [this]
  cases mget ls i <;> rfl
theorem mRead (s : ByteArray) (w : World) : Calls Try.prog 38 #[.string s] w (fun e w' => e = .returned (.int .i64 (readOf s)) ∧ Mem w [] w' []) :=
  (votes_Read s w).mono fun e w' ⟨he, y, hy⟩ => ⟨he, by rw [hy]; exact Mem.begin.ext⟩
set_option maxRecDepth 100000 in
set_option maxHeartbeats 8000000 in
theorem m_votes1 (w : World) (xb lvb eb lb : Nat) (A2 : Option Addr) (c2 n : Nat) (rows : List (Nat → Int)) (id client m0 m1 m2 : Int) (A : Option Addr) (c n0 : Nat) (d : Int) (ls : List (Inst × LnM)) (R : Asn) (v : Visit) (x : LnM) (hx : mget ls v.i = some x) (hi : v.i.wf) (hk : v.k < n) (hr : v.r < 4) (hn : rows.length = n) (hn8 : n ≤ 1000)
    (h : Pre w [listA 38 4 rowCells A2 c2 rows, .pt xb [.pointer (some ⟨eb, 0, none⟩)] 98, .pt lvb [.slice A2 n c2] 27, .pt eb [.int .u64 id, .int .i64 client, .int .i64 m0, .int .i64 m1, .int .i64 m2, .slice A n0 c, .map (some lb), .int .i64 d] 101, mapA instKey ptrV lb (ls.map lnPtr), fam lnF ls, R]) :
    Calls Try.prog 66 #[.int .i64 v.k, .int .i64 v.r, v.i.val, .pointer (some ⟨xb, 0, none⟩), .pointer (some ⟨lvb, 0, none⟩)] w (fun e w' => e = .returned (.tuple #[]) ∧ Mem w (foots [listA 38 4 rowCells A2 c2 rows, .pt xb [.pointer (some ⟨eb, 0, none⟩)] 98, .pt lvb [.slice A2 n c2] 27, .pt eb [.int .u64 id, .int .i64 client, .int .i64 m0, .int .i64 m1, .int .i64 m2, .slice A n0 c, .map (some lb), .int .i64 d] 101, mapA instKey ptrV lb (ls.map lnPtr), fam lnF ls, R]) w'
      [listA 38 4 rowCells A2 c2 (voteStep (plnOf ls) rows v), .pt xb [.pointer (some ⟨eb, 0, none⟩)] 98, .pt lvb [.slice A2 n c2] 27, .pt eb [.int .u64 id, .int .i64 client, .int .i64 m0, .int .i64 m1, .int .i64 m2, .slice A n0 c, .map (some lb), .int .i64 d] 101, mapA instKey ptrV lb (ls.map lnPtr), fam lnF ls, R]) := by
  have hst : voteStep (plnOf ls) rows v = if x.l.is = true then rows.set v.k (rowSet (rows.getD v.k (fun _ => 0)) v.r (readOf x.l.chosen)) else rows := by
    unfold voteStep
    rw [mget_pln, hx]
    rfl
  rw [hst]
  clear hst
  have O := h
  unfold Pre at O
  clear h
  generalize hfp : foots [listA 38 4 rowCells A2 c2 rows, .pt xb [.pointer (some ⟨eb, 0, none⟩)] 98, .pt lvb [.slice A2 n c2] 27, .pt eb [.int .u64 id, .int .i64 client, .int .i64 m0, .int .i64 m1, .int .i64 m2, .slice A n0 c, .map (some lb), .int .i64 d] 101, mapA instKey ptrV lb (ls.map lnPtr), fam lnF ls, R] = fp at O ⊢
  clear hfp
  obtain ⟨k, r, i⟩ := v
  simp only at hx hi hk hr ⊢
  have LK := Lib.hid (fun W (hW : MapAt instKey ptrV W lb (ls.map lnPtr)) => by
    have := look_ln hW hi
    rw [hx] at this
    simp only [Option.map_some, Option.getD_some, ptrV] at this
    exact this)
  have CC := Lib.hid (fun W (hW : Pre W [fam lnF ls]) => lA_Chosen_fam W ls i x hW hx)
  have CR := Lib.hid (fun W => mRead x.l.chosen W)
  obtain ⟨f, hf⟩ : ∃ f, rows[k]? = some f := ⟨_, List.getElem?_eq_getElem (by omega)⟩
  have hgd : rows.getD k (fun _ => 0) = f := by rw [List.getD_eq_getElem?_getD, hf]; rfl
  rw [hgd]
  obtain ⟨ga, rfl, _⟩ := listA_get rowLen (O.hold (listA 38 4 rowCells A2 c2 rows) (by simp)) hf
  have HF := Lib.hid hf
  have HRS := Lib.hid (rowCells_set f hr (readOf x.l.chosen))
  have hki : (k : Int) < n := by omega
  have hri : (r : Int) < 4 := by omega
  obtain ⟨i1, i2, i3, i4⟩ := i
  simp only [Inst.val] at LK ⊢
  clear hf hgd hx hi hn
  generalize readOf x.l.chosen = rv at *
  generalize x.l.chosen = xch at *
  generalize x.l.is = xis at *
  generalize x.lb = xlb at *
  skip
  go_enter Try.func66, Try.ntmps66
  have cs := O.facts
  try simp only [factsP, cellsP, roomP, foots_cons, foots_nil, foots_append, foot_pt, ptb, ptb_mapA, foot_mapA, factsP_mapA, foot_bun, List.append_nil, List.nil_append, List.cons_append, List.nodup_cons, List.nodup_nil, List.mem_cons, List.not_mem_nil, List.mem_singleton, List.forall_mem_cons, not_or, not_false_eq_true, and_true, true_and, or_false, false_or, forall_eq_or_imp, forall_eq, implies_true, Nat.zero_add, Nat.reduceAdd, and_assoc, ptb_mapA, factsP_bun, ptb_bun, upd_listA, upd_datasA, upd_txA, upd_mapA, upd_bun, upd_fam, ptb_listA, factsP_listA, Nat.mul_one, ptb_datasA, factsP_datasA, ptb_txA, factsP_txA, itCells, ptb_fam, factsP_fam, ptb_learnA, factsP_learnA, rowCells] at cs
  try have v1 := (LK.out _ (O.map (κ := instKey) (vv := ptrV) (by simp)))
  try simp only [cellsQ, roomP, and_assoc, and_true, true_and, Nat.add_zero, Nat.zero_add, Nat.reduceAdd, factsP, cellsP, roomP, foots_cons, foots_nil, foots_append, foot_pt, ptb, ptb_mapA, foot_mapA, factsP_mapA, foot_bun, List.append_nil, List.nil_append, List.cons_append, List.nodup_cons, List.nodup_nil, List.mem_cons, List.not_mem_nil, List.mem_singleton, List.forall_mem_cons, not_or, not_false_eq_true, and_true, true_and, or_false, false_or, forall_eq_or_imp, forall_eq, implies_true, Nat.zero_add, Nat.reduceAdd, and_assoc, ptb_mapA, factsP_bun, ptb_bun, upd_listA, upd_datasA, upd_txA, upd_mapA, upd_bun, upd_fam, ptb_listA, factsP_listA, Nat.mul_one, ptb_datasA, factsP_datasA, ptb_txA, factsP_txA, itCells, ptb_fam, factsP_fam, ptb_learnA, factsP_learnA, rowCells] at v1
  try have v2 := (row_at (A := none) (O.hold (listA 38 4 rowCells (some ⟨ga, 0, none⟩) c2 rows) (List.mem_cons_of_mem _ (List.mem_cons_self ..))) HF.out hr)
  try simp only [cellsQ, roomP, and_assoc, and_true, true_and, Nat.add_zero, Nat.zero_add, Nat.reduceAdd, factsP, cellsP, roomP, foots_cons, foots_nil, foots_append, foot_pt, ptb, ptb_mapA, foot_mapA, factsP_mapA, foot_bun, List.append_nil, List.nil_append, List.cons_append, List.nodup_cons, List.nodup_nil, List.mem_cons, List.not_mem_nil, List.mem_singleton, List.forall_mem_cons, not_or, not_false_eq_true, and_true, true_and, or_false, false_or, forall_eq_or_imp, forall_eq, implies_true, Nat.zero_add, Nat.reduceAdd, and_assoc, ptb_mapA, factsP_bun, ptb_bun, upd_listA, upd_datasA, upd_txA, upd_mapA, upd_bun, upd_fam, ptb_listA, factsP_listA, Nat.mul_one, ptb_datasA, factsP_datasA, ptb_txA, factsP_txA, itCells, ptb_fam, factsP_fam, ptb_learnA, factsP_learnA, rowCells] at v2
  go_upto_region 1 with fail
  first | apply Mem.atCall | apply Mem.atCode | apply Mem.atList
  case h => repeat' (first | (with_reducible exact O) | (with_reducible apply Mem.drew) | (with_reducible apply Mem.drewN) | (with_reducible apply Mem.ext) | (with_reducible apply Mem.alloc) | (with_reducible apply Mem.setCell) | (simp only [ptb, ptb_upd, foots_cons, List.mem_cons, World.size_alloc, size_ext, World.size_setCell, true_or, or_true, eq_self_iff_true, ptb_mapA, ptb_bun, ptb_listA, ptb_datasA, ptb_txA, ptb_fam, ptb_learnA]))
  case' k =>
    intro w1 O'
    (try clear O)
    have O := O'
    clear O'
    (first | simp only [sel, rst, List.cons_append, List.nil_append, World.size_alloc, size_ext, World.size_setCell, size_setMap, World.size_drew, size_drewN, upd, List.set_cons_zero, List.set_cons_succ, if_true, if_false, reduceIte, not_false_eq_true, ne_lt0, ne_lt1, ne_lt2, ne_lt3, ne_lt4, upd_listA, upd_datasA, upd_txA, upd_mapA, upd_bun, upd_fam, cs] at O | simp only [sel, rst, List.cons_append, List.nil_append, World.size_alloc, size_ext, World.size_setCell, size_setMap, World.size_drew, size_drewN, upd, List.set_cons_zero, List.set_cons_succ, if_true, if_false, reduceIte, not_false_eq_true, ne_lt0, ne_lt1, ne_lt2, ne_lt3, ne_lt4, upd_listA, upd_datasA, upd_txA, upd_mapA, upd_bun, upd_fam] at O | skip)
    (try clear cs)
    (try clear v1)
    (try clear v2)
    (try clear v3)
  generalize w.heap.size = bx at O ⊢
  apply region_held_mem [true, false, true, false, true] (by kernel_rfl)
  case O => repeat' (first | (with_reducible exact O) | (with_reducible apply Mem.drew) | (with_reducible apply Mem.drewN) | (with_reducible apply Mem.ext) | (with_reducible apply Mem.alloc) | (with_reducible apply Mem.setCell) | (simp only [ptb, ptb_upd, foots_cons, List.mem_cons, World.size_alloc, size_ext, World.size_setCell, true_or, or_true, eq_self_iff_true, ptb_mapA, ptb_bun, ptb_listA, ptb_datasA, ptb_txA, ptb_fam, ptb_learnA]))
  case' h =>
    intro wr1 O'
    (try clear O)
    have O := O'
    clear O'
    (first | simp only [sel, rst, List.cons_append, List.nil_append, World.size_alloc, size_ext, World.size_setCell, size_setMap, World.size_drew, size_drewN, upd, List.set_cons_zero, List.set_cons_succ, if_true, if_false, reduceIte, not_false_eq_true, ne_lt0, ne_lt1, ne_lt2, ne_lt3, ne_lt4, upd_listA, upd_datasA, upd_txA, upd_mapA, upd_bun, upd_fam, cs] at O | simp only [sel, rst, List.cons_append, List.nil_append, World.size_alloc, size_ext, World.size_setCell, size_setMap, World.size_drew, size_drewN, upd, List.set_cons_zero, List.set_cons_succ, if_true, if_false, reduceIte, not_false_eq_true, ne_lt0, ne_lt1, ne_lt2, ne_lt3, ne_lt4, upd_listA, upd_datasA, upd_txA, upd_mapA, upd_bun, upd_fam] at O | skip)
    (try clear cs)
    (try clear v1)
    (try clear v2)
    (try clear v3)
  refine takeH (i := 0) (v := ?v1_1) rfl (by kernel_rfl) (by kernel_rfl) (by kernel_rfl) (fun _ _ _ h => h) (by rfl) ?y1_1 (O.sel [true, false, true, false, true]) ?r1_1
  case y1_1 =>
    intro WW hSw
    replace hSw : Mem _ _ WW _ := hSw
    have cs := hSw.facts
    simp only [sel, factsP, cellsP, roomP, foots_cons, foots_nil, foots_append, foot_pt, ptb, ptb_mapA, foot_mapA, factsP_mapA, foot_bun, List.append_nil, List.nil_append, List.cons_append, List.nodup_cons, List.nodup_nil, List.mem_cons, List.not_mem_nil, List.mem_singleton, List.forall_mem_cons, not_or, not_false_eq_true, and_true, true_and, or_false, false_or, forall_eq_or_imp, forall_eq, implies_true, Nat.zero_add, Nat.reduceAdd, and_assoc, ptb_mapA, factsP_bun, ptb_bun, upd_listA, upd_datasA, upd_txA, upd_mapA, upd_bun, upd_fam, ptb_listA, factsP_listA, Nat.mul_one, ptb_datasA, factsP_datasA, ptb_txA, factsP_txA, itCells, ptb_fam, factsP_fam, ptb_learnA, factsP_learnA, rowCells] at cs
    try have v1 := (LK.out _ (hSw.map (κ := instKey) (vv := ptrV) (by simp)))
    try simp only [cellsQ, roomP, and_assoc, and_true, true_and, Nat.add_zero, Nat.zero_add, Nat.reduceAdd, factsP, cellsP, roomP, foots_cons, foots_nil, foots_append, foot_pt, ptb, ptb_mapA, foot_mapA, factsP_mapA, foot_bun, List.append_nil, List.nil_append, List.cons_append, List.nodup_cons, List.nodup_nil, List.mem_cons, List.not_mem_nil, List.mem_singleton, List.forall_mem_cons, not_or, not_false_eq_true, and_true, true_and, or_false, false_or, forall_eq_or_imp, forall_eq, implies_true, Nat.zero_add, Nat.reduceAdd, and_assoc, ptb_mapA, factsP_bun, ptb_bun, upd_listA, upd_datasA, upd_txA, upd_mapA, upd_bun, upd_fam, ptb_listA, factsP_listA, Nat.mul_one, ptb_datasA, factsP_datasA, ptb_txA, factsP_txA, itCells, ptb_fam, factsP_fam, ptb_learnA, factsP_learnA, rowCells] at v1
    try have v2 := (row_at (A := none) (hSw.hold (listA 38 4 rowCells (some ⟨ga, 0, none⟩) c2 rows) (List.mem_cons_of_mem _ (List.mem_cons_self ..))) HF.out hr)
    try simp only [cellsQ, roomP, and_assoc, and_true, true_and, Nat.add_zero, Nat.zero_add, Nat.reduceAdd, factsP, cellsP, roomP, foots_cons, foots_nil, foots_append, foot_pt, ptb, ptb_mapA, foot_mapA, factsP_mapA, foot_bun, List.append_nil, List.nil_append, List.cons_append, List.nodup_cons, List.nodup_nil, List.mem_cons, List.not_mem_nil, List.mem_singleton, List.forall_mem_cons, not_or, not_false_eq_true, and_true, true_and, or_false, false_or, forall_eq_or_imp, forall_eq, implies_true, Nat.zero_add, Nat.reduceAdd, and_assoc, ptb_mapA, factsP_bun, ptb_bun, upd_listA, upd_datasA, upd_txA, upd_mapA, upd_bun, upd_fam, ptb_listA, factsP_listA, Nat.mul_one, ptb_datasA, factsP_datasA, ptb_txA, factsP_txA, itCells, ptb_fam, factsP_fam, ptb_learnA, factsP_learnA, rowCells] at v2
    (go_simp) <;> (with_reducible rfl)
  case' r1_1 =>
    try simp only [Act.put, List.setIfInBounds_toArray, List.set_cons_zero, List.set_cons_succ]
  refine takeH (i := 1) (v := ?v1_2) rfl (by kernel_rfl) (by kernel_rfl) (by kernel_rfl) (fun _ _ _ h => h) (by rfl) ?y1_2 (O.sel [true, false, true, false, true]) ?r1_2
  case y1_2 =>
    intro WW hSw
    (go_simp) <;> (with_reducible rfl)
  case' r1_2 =>
    try simp only [Act.put, List.setIfInBounds_toArray, List.set_cons_zero, List.set_cons_succ]
  refine takeH (i := 2) (v := ?v1_3) rfl (by kernel_rfl) (by kernel_rfl) (by kernel_rfl) (fun _ _ _ h => h) (by rfl) ?y1_3 (O.sel [true, false, true, false, true]) ?r1_3
  case y1_3 =>
    intro WW hSw
    (go_simp) <;> (with_reducible rfl)
  case' r1_3 =>
    try simp only [Act.put, List.setIfInBounds_toArray, List.set_cons_zero, List.set_cons_succ]
  refine takeH (i := 3) (v := ?v1_4) rfl (by kernel_rfl) (by kernel_rfl) (by kernel_rfl) (fun _ _ _ h => h) (by rfl) ?y1_4 (O.sel [true, false, true, false, true]) ?r1_4
  case y1_4 =>
    intro WW hSw
    replace hSw : Mem _ _ WW _ := hSw
    have cs := hSw.facts
    simp only [sel, factsP, cellsP, roomP, foots_cons, foots_nil, foots_append, foot_pt, ptb, ptb_mapA, foot_mapA, factsP_mapA, foot_bun, List.append_nil, List.nil_append, List.cons_append, List.nodup_cons, List.nodup_nil, List.mem_cons, List.not_mem_nil, List.mem_singleton, List.forall_mem_cons, not_or, not_false_eq_true, and_true, true_and, or_false, false_or, forall_eq_or_imp, forall_eq, implies_true, Nat.zero_add, Nat.reduceAdd, and_assoc, ptb_mapA, factsP_bun, ptb_bun, upd_listA, upd_datasA, upd_txA, upd_mapA, upd_bun, upd_fam, ptb_listA, factsP_listA, Nat.mul_one, ptb_datasA, factsP_datasA, ptb_txA, factsP_txA, itCells, ptb_fam, factsP_fam, ptb_learnA, factsP_learnA, rowCells] at cs
    try have v1 := (LK.out _ (hSw.map (κ := instKey) (vv := ptrV) (by simp)))
    try simp only [cellsQ, roomP, and_assoc, and_true, true_and, Nat.add_zero, Nat.zero_add, Nat.reduceAdd, factsP, cellsP, roomP, foots_cons, foots_nil, foots_append, foot_pt, ptb, ptb_mapA, foot_mapA, factsP_mapA, foot_bun, List.append_nil, List.nil_append, List.cons_append, List.nodup_cons, List.nodup_nil, List.mem_cons, List.not_mem_nil, List.mem_singleton, List.forall_mem_cons, not_or, not_false_eq_true, and_true, true_and, or_false, false_or, forall_eq_or_imp, forall_eq, implies_true, Nat.zero_add, Nat.reduceAdd, and_assoc, ptb_mapA, factsP_bun, ptb_bun, upd_listA, upd_datasA, upd_txA, upd_mapA, upd_bun, upd_fam, ptb_listA, factsP_listA, Nat.mul_one, ptb_datasA, factsP_datasA, ptb_txA, factsP_txA, itCells, ptb_fam, factsP_fam, ptb_learnA, factsP_learnA, rowCells] at v1
    try have v2 := (row_at (A := none) (hSw.hold (listA 38 4 rowCells (some ⟨ga, 0, none⟩) c2 rows) (List.mem_cons_of_mem _ (List.mem_cons_self ..))) HF.out hr)
    try simp only [cellsQ, roomP, and_assoc, and_true, true_and, Nat.add_zero, Nat.zero_add, Nat.reduceAdd, factsP, cellsP, roomP, foots_cons, foots_nil, foots_append, foot_pt, ptb, ptb_mapA, foot_mapA, factsP_mapA, foot_bun, List.append_nil, List.nil_append, List.cons_append, List.nodup_cons, List.nodup_nil, List.mem_cons, List.not_mem_nil, List.mem_singleton, List.forall_mem_cons, not_or, not_false_eq_true, and_true, true_and, or_false, false_or, forall_eq_or_imp, forall_eq, implies_true, Nat.zero_add, Nat.reduceAdd, and_assoc, ptb_mapA, factsP_bun, ptb_bun, upd_listA, upd_datasA, upd_txA, upd_mapA, upd_bun, upd_fam, ptb_listA, factsP_listA, Nat.mul_one, ptb_datasA, factsP_datasA, ptb_txA, factsP_txA, itCells, ptb_fam, factsP_fam, ptb_learnA, factsP_learnA, rowCells] at v2
    (go_simp) <;> (with_reducible rfl)
  case' r1_4 =>
    try simp only [Act.put, List.setIfInBounds_toArray, List.set_cons_zero, List.set_cons_succ]
  refine takeH (i := 4) (v := ?v1_5) rfl (by kernel_rfl) (by kernel_rfl) (by kernel_rfl) (fun _ _ _ h => h) (by rfl) ?y1_5 (O.sel [true, false, true, false, true]) ?r1_5
  case y1_5 =>
    intro WW hSw
    replace hSw : Mem _ _ WW _ := hSw
    have cs := hSw.facts
    simp only [sel, factsP, cellsP, roomP, foots_cons, foots_nil, foots_append, foot_pt, ptb, ptb_mapA, foot_mapA, factsP_mapA, foot_bun, List.append_nil, List.nil_append, List.cons_append, List.nodup_cons, List.nodup_nil, List.mem_cons, List.not_mem_nil, List.mem_singleton, List.forall_mem_cons, not_or, not_false_eq_true, and_true, true_and, or_false, false_or, forall_eq_or_imp, forall_eq, implies_true, Nat.zero_add, Nat.reduceAdd, and_assoc, ptb_mapA, factsP_bun, ptb_bun, upd_listA, upd_datasA, upd_txA, upd_mapA, upd_bun, upd_fam, ptb_listA, factsP_listA, Nat.mul_one, ptb_datasA, factsP_datasA, ptb_txA, factsP_txA, itCells, ptb_fam, factsP_fam, ptb_learnA, factsP_learnA, rowCells] at cs
    try have v1 := (LK.out _ (hSw.map (κ := instKey) (vv := ptrV) (by simp)))
    try simp only [cellsQ, roomP, and_assoc, and_true, true_and, Nat.add_zero, Nat.zero_add, Nat.reduceAdd, factsP, cellsP, roomP, foots_cons, foots_nil, foots_append, foot_pt, ptb, ptb_mapA, foot_mapA, factsP_mapA, foot_bun, List.append_nil, List.nil_append, List.cons_append, List.nodup_cons, List.nodup_nil, List.mem_cons, List.not_mem_nil, List.mem_singleton, List.forall_mem_cons, not_or, not_false_eq_true, and_true, true_and, or_false, false_or, forall_eq_or_imp, forall_eq, implies_true, Nat.zero_add, Nat.reduceAdd, and_assoc, ptb_mapA, factsP_bun, ptb_bun, upd_listA, upd_datasA, upd_txA, upd_mapA, upd_bun, upd_fam, ptb_listA, factsP_listA, Nat.mul_one, ptb_datasA, factsP_datasA, ptb_txA, factsP_txA, itCells, ptb_fam, factsP_fam, ptb_learnA, factsP_learnA, rowCells] at v1
    try have v2 := (row_at (A := none) (hSw.hold (listA 38 4 rowCells (some ⟨ga, 0, none⟩) c2 rows) (List.mem_cons_of_mem _ (List.mem_cons_self ..))) HF.out hr)
    try simp only [cellsQ, roomP, and_assoc, and_true, true_and, Nat.add_zero, Nat.zero_add, Nat.reduceAdd, factsP, cellsP, roomP, foots_cons, foots_nil, foots_append, foot_pt, ptb, ptb_mapA, foot_mapA, factsP_mapA, foot_bun, List.append_nil, List.nil_append, List.cons_append, List.nodup_cons, List.nodup_nil, List.mem_cons, List.not_mem_nil, List.mem_singleton, List.forall_mem_cons, not_or, not_false_eq_true, and_true, true_and, or_false, false_or, forall_eq_or_imp, forall_eq, implies_true, Nat.zero_add, Nat.reduceAdd, and_assoc, ptb_mapA, factsP_bun, ptb_bun, upd_listA, upd_datasA, upd_txA, upd_mapA, upd_bun, upd_fam, ptb_listA, factsP_listA, Nat.mul_one, ptb_datasA, factsP_datasA, ptb_txA, factsP_txA, itCells, ptb_fam, factsP_fam, ptb_learnA, factsP_learnA, rowCells] at v2
    (go_simp) <;> (with_reducible rfl)
  case' r1_5 =>
    try simp only [Act.put, List.setIfInBounds_toArray, List.set_cons_zero, List.set_cons_succ]
  refine wpAnyH_ready (rs := [5]) (by kernel_rfl) (by simp) ?_
  refine consH rfl (fun K hK => ?_) AllReadyH.nil
  have cs := O.facts
  simp only [factsP, cellsP, roomP, foots_cons, foots_nil, foots_append, foot_pt, ptb, ptb_mapA, foot_mapA, factsP_mapA, foot_bun, List.append_nil, List.nil_append, List.cons_append, List.nodup_cons, List.nodup_nil, List.mem_cons, List.not_mem_nil, List.mem_singleton, List.forall_mem_cons, not_or, not_false_eq_true, and_true, true_and, or_false, false_or, forall_eq_or_imp, forall_eq, implies_true, Nat.zero_add, Nat.reduceAdd, and_assoc, ptb_mapA, factsP_bun, ptb_bun, upd_listA, upd_datasA, upd_txA, upd_mapA, upd_bun, upd_fam, ptb_listA, factsP_listA, Nat.mul_one, ptb_datasA, factsP_datasA, ptb_txA, factsP_txA, itCells, ptb_fam, factsP_fam, ptb_learnA, factsP_learnA, rowCells] at cs
  try have v1 := (LK.out _ (O.map (κ := instKey) (vv := ptrV) (by simp)))
  try simp only [cellsQ, roomP, and_assoc, and_true, true_and, Nat.add_zero, Nat.zero_add, Nat.reduceAdd, factsP, cellsP, roomP, foots_cons, foots_nil, foots_append, foot_pt, ptb, ptb_mapA, foot_mapA, factsP_mapA, foot_bun, List.append_nil, List.nil_append, List.cons_append, List.nodup_cons, List.nodup_nil, List.mem_cons, List.not_mem_nil, List.mem_singleton, List.forall_mem_cons, not_or, not_false_eq_true, and_true, true_and, or_false, false_or, forall_eq_or_imp, forall_eq, implies_true, Nat.zero_add, Nat.reduceAdd, and_assoc, ptb_mapA, factsP_bun, ptb_bun, upd_listA, upd_datasA, upd_txA, upd_mapA, upd_bun, upd_fam, ptb_listA, factsP_listA, Nat.mul_one, ptb_datasA, factsP_datasA, ptb_txA, factsP_txA, itCells, ptb_fam, factsP_fam, ptb_learnA, factsP_learnA, rowCells] at v1
  try have v2 := (row_at (A := none) (O.hold (listA 38 4 rowCells (some ⟨ga, 0, none⟩) c2 rows) (List.mem_cons_of_mem _ (List.mem_cons_self ..))) HF.out hr)
  try simp only [cellsQ, roomP, and_assoc, and_true, true_and, Nat.add_zero, Nat.zero_add, Nat.reduceAdd, factsP, cellsP, roomP, foots_cons, foots_nil, foots_append, foot_pt, ptb, ptb_mapA, foot_mapA, factsP_mapA, foot_bun, List.append_nil, List.nil_append, List.cons_append, List.nodup_cons, List.nodup_nil, List.mem_cons, List.not_mem_nil, List.mem_singleton, List.forall_mem_cons, not_or, not_false_eq_true, and_true, true_and, or_false, false_or, forall_eq_or_imp, forall_eq, implies_true, Nat.zero_add, Nat.reduceAdd, and_assoc, ptb_mapA, factsP_bun, ptb_bun, upd_listA, upd_datasA, upd_txA, upd_mapA, upd_bun, upd_fam, ptb_listA, factsP_listA, Nat.mul_one, ptb_datasA, factsP_datasA, ptb_txA, factsP_txA, itCells, ptb_fam, factsP_fam, ptb_learnA, factsP_learnA, rowCells] at v2
  go_simp
  apply Mem.atK
  case h => repeat' (first | (with_reducible exact O) | (with_reducible apply Mem.drew) | (with_reducible apply Mem.drewN) | (with_reducible apply Mem.ext) | (with_reducible apply Mem.alloc) | (with_reducible apply Mem.setCell) | (simp only [ptb, ptb_upd, foots_cons, List.mem_cons, World.size_alloc, size_ext, World.size_setCell, true_or, or_true, eq_self_iff_true, ptb_mapA, ptb_bun, ptb_listA, ptb_datasA, ptb_txA, ptb_fam, ptb_learnA]))
  intro w1_6 O'
  (try clear O)
  have O := O'
  clear O'
  (first | simp only [sel, rst, List.cons_append, List.nil_append, World.size_alloc, size_ext, World.size_setCell, size_setMap, World.size_drew, size_drewN, upd, List.set_cons_zero, List.set_cons_succ, if_true, if_false, reduceIte, not_false_eq_true, ne_lt0, ne_lt1, ne_lt2, ne_lt3, ne_lt4, upd_listA, upd_datasA, upd_txA, upd_mapA, upd_bun, upd_fam, cs] at O | simp only [sel, rst, List.cons_append, List.nil_append, World.size_alloc, size_ext, World.size_setCell, size_setMap, World.size_drew, size_drewN, upd, List.set_cons_zero, List.set_cons_succ, if_true, if_false, reduceIte, not_false_eq_true, ne_lt0, ne_lt1, ne_lt2, ne_lt3, ne_lt4, upd_listA, upd_datasA, upd_txA, upd_mapA, upd_bun, upd_fam] at O | skip)
  (try clear cs)
  (try clear v1)
  (try clear v2)
  (try clear v3)
  refine hK.out _ _ (O.sel [true, false, true, false, true]) (fun _ => ?_)
  clear hK K
  refine wpAnyH_ready (rs := [6]) (by kernel_rfl) (by simp) ?_
  refine consH rfl (fun K hK => ?_) AllReadyH.nil
  have cs := O.facts
  simp only [factsP, cellsP, roomP, foots_cons, foots_nil, foots_append, foot_pt, ptb, ptb_mapA, foot_mapA, factsP_mapA, foot_bun, List.append_nil, List.nil_append, List.cons_append, List.nodup_cons, List.nodup_nil, List.mem_cons, List.not_mem_nil, List.mem_singleton, List.forall_mem_cons, not_or, not_false_eq_true, and_true, true_and, or_false, false_or, forall_eq_or_imp, forall_eq, implies_true, Nat.zero_add, Nat.reduceAdd, and_assoc, ptb_mapA, factsP_bun, ptb_bun, upd_listA, upd_datasA, upd_txA, upd_mapA, upd_bun, upd_fam, ptb_listA, factsP_listA, Nat.mul_one, ptb_datasA, factsP_datasA, ptb_txA, factsP_txA, itCells, ptb_fam, factsP_fam, ptb_learnA, factsP_learnA, rowCells] at cs
  try have v1 := (LK.out _ (O.map (κ := instKey) (vv := ptrV) (by simp)))
  try simp only [cellsQ, roomP, and_assoc, and_true, true_and, Nat.add_zero, Nat.zero_add, Nat.reduceAdd, factsP, cellsP, roomP, foots_cons, foots_nil, foots_append, foot_pt, ptb, ptb_mapA, foot_mapA, factsP_mapA, foot_bun, List.append_nil, List.nil_append, List.cons_append, List.nodup_cons, List.nodup_nil, List.mem_cons, List.not_mem_nil, List.mem_singleton, List.forall_mem_cons, not_or, not_false_eq_true, and_true, true_and, or_false, false_or, forall_eq_or_imp, forall_eq, implies_true, Nat.zero_add, Nat.reduceAdd, and_assoc, ptb_mapA, factsP_bun, ptb_bun, upd_listA, upd_datasA, upd_txA, upd_mapA, upd_bun, upd_fam, ptb_listA, factsP_listA, Nat.mul_one, ptb_datasA, factsP_datasA, ptb_txA, factsP_txA, itCells, ptb_fam, factsP_fam, ptb_learnA, factsP_learnA, rowCells] at v1
  try have v2 := (row_at (A := none) (O.hold (listA 38 4 rowCells (some ⟨ga, 0, none⟩) c2 rows) (List.mem_cons_of_mem _ (List.mem_cons_self ..))) HF.out hr)
  try simp only [cellsQ, roomP, and_assoc, and_true, true_and, Nat.add_zero, Nat.zero_add, Nat.reduceAdd, factsP, cellsP, roomP, foots_cons, foots_nil, foots_append, foot_pt, ptb, ptb_mapA, foot_mapA, factsP_mapA, foot_bun, List.append_nil, List.nil_append, List.cons_append, List.nodup_cons, List.nodup_nil, List.mem_cons, List.not_mem_nil, List.mem_singleton, List.forall_mem_cons, not_or, not_false_eq_true, and_true, true_and, or_false, false_or, forall_eq_or_imp, forall_eq, implies_true, Nat.zero_add, Nat.reduceAdd, and_assoc, ptb_mapA, factsP_bun, ptb_bun, upd_listA, upd_datasA, upd_txA, upd_mapA, upd_bun, upd_fam, ptb_listA, factsP_listA, Nat.mul_one, ptb_datasA, factsP_datasA, ptb_txA, factsP_txA, itCells, ptb_fam, factsP_fam, ptb_learnA, factsP_learnA, rowCells] at v2
  go_simp
  apply Mem.atCall
  case h => repeat' (first | (with_reducible exact O) | (with_reducible apply Mem.drew) | (with_reducible apply Mem.drewN) | (with_reducible apply Mem.ext) | (with_reducible apply Mem.alloc) | (with_reducible apply Mem.setCell) | (simp only [ptb, ptb_upd, foots_cons, List.mem_cons, World.size_alloc, size_ext, World.size_setCell, true_or, or_true, eq_self_iff_true, ptb_mapA, ptb_bun, ptb_listA, ptb_datasA, ptb_txA, ptb_fam, ptb_learnA]))
  intro w1_7 O'
  (try clear O)
  have O := O'
  clear O'
  (first | simp only [sel, rst, List.cons_append, List.nil_append, World.size_alloc, size_ext, World.size_setCell, size_setMap, World.size_drew, size_drewN, upd, List.set_cons_zero, List.set_cons_succ, if_true, if_false, reduceIte, not_false_eq_true, ne_lt0, ne_lt1, ne_lt2, ne_lt3, ne_lt4, upd_listA, upd_datasA, upd_txA, upd_mapA, upd_bun, upd_fam, cs] at O | simp only [sel, rst, List.cons_append, List.nil_append, World.size_alloc, size_ext, World.size_setCell, size_setMap, World.size_drew, size_drewN, upd, List.set_cons_zero, List.set_cons_succ, if_true, if_false, reduceIte, not_false_eq_true, ne_lt0, ne_lt1, ne_lt2, ne_lt3, ne_lt4, upd_listA, upd_datasA, upd_txA, upd_mapA, upd_bun, upd_fam] at O | skip)
  (try clear cs)
  (try clear v1)
  (try clear v2)
  (try clear v3)
  refine (CC.out _ (O.pre [false, false, false, false, false, false, true])).mono ?_
  rintro e w1_7' ⟨rfl, o⟩
  replace O := O.callp [] o
  clear o
  simp only [put, List.cons_append, List.nil_append] at O
  go_wp2_with fail
  refine hK.out _ _ (O.sel [true, false, true, false, true]) (fun _ => ?_)
  clear hK K
  refine takeH (i := 7) (v := ?v1_8) rfl (by kernel_rfl) (by kernel_rfl) (by kernel_rfl) (fun _ _ _ h => h) (by rfl) ?y1_8 (O.sel [true, false, true, false, true]) ?r1_8
  case y1_8 =>
    intro WW hSw
    (go_simp) <;> (with_reducible rfl)
  case' r1_8 =>
    try simp only [Act.put, List.setIfInBounds_toArray, List.set_cons_zero, List.set_cons_succ]
  refine takeH (i := 8) (v := ?v1_9) rfl (by kernel_rfl) (by kernel_rfl) (by kernel_rfl) (fun _ _ _ h => h) (by rfl) ?y1_9 (O.sel [true, false, true, false, true]) ?r1_9
  case y1_9 =>
    intro WW hSw
    (go_simp) <;> (with_reducible rfl)
  case' r1_9 =>
    try simp only [Act.put, List.setIfInBounds_toArray, List.set_cons_zero, List.set_cons_succ]
  refine takeH (i := 9) (v := ?v1_10) rfl (by kernel_rfl) (by kernel_rfl) (by kernel_rfl) (fun _ _ _ h => h) (by rfl) ?y1_10 (O.sel [true, false, true, false, true]) ?r1_10
  case y1_10 =>
    intro WW hSw
    (go_simp) <;> (with_reducible rfl)
  case' r1_10 =>
    try simp only [Act.put, List.setIfInBounds_toArray, List.set_cons_zero, List.set_cons_succ]
  refine takeH (i := 10) (v := ?v1_11) rfl (by kernel_rfl) (by kernel_rfl) (by kernel_rfl) (fun _ _ _ h => h) (by rfl) ?y1_11 (O.sel [true, false, true, false, true]) ?r1_11
  case y1_11 =>
    intro WW hSw
    (go_simp) <;> (with_reducible rfl)
  case' r1_11 =>
    try simp only [Act.put, List.setIfInBounds_toArray, List.set_cons_zero, List.set_cons_succ]
  refine takeH (i := 11) (v := ?v1_12) rfl (by kernel_rfl) (by kernel_rfl) (by kernel_rfl) (fun _ _ _ h => h) (by rfl) ?y1_12 (O.sel [true, false, true, false, true]) ?r1_12
  case y1_12 =>
    intro WW hSw
    (go_simp) <;> (with_reducible rfl)
  case' r1_12 =>
    try simp only [Act.put, List.setIfInBounds_toArray, List.set_cons_zero, List.set_cons_succ]
  refine wpAnyH_done (by kernel_rfl) ?_ _
  skip
  cases xis
  · have cs := O.facts
    try simp only [factsP, cellsP, roomP, foots_cons, foots_nil, foots_append, foot_pt, ptb, ptb_mapA, foot_mapA, factsP_mapA, foot_bun, List.append_nil, List.nil_append, List.cons_append, List.nodup_cons, List.nodup_nil, List.mem_cons, List.not_mem_nil, List.mem_singleton, List.forall_mem_cons, not_or, not_false_eq_true, and_true, true_and, or_false, false_or, forall_eq_or_imp, forall_eq, implies_true, Nat.zero_add, Nat.reduceAdd, and_assoc, ptb_mapA, factsP_bun, ptb_bun, upd_listA, upd_datasA, upd_txA, upd_mapA, upd_bun, upd_fam, ptb_listA, factsP_listA, Nat.mul_one, ptb_datasA, factsP_datasA, ptb_txA, factsP_txA, itCells, ptb_fam, factsP_fam, ptb_learnA, factsP_learnA, rowCells] at cs
    go_wp2_with fail
    go_end0
    refine ⟨rfl, ?_⟩
    exact O.sel [false, true, true, true, true, true, true, true]
  · skip
    have cs := O.facts
    try simp only [factsP, cellsP, roomP, foots_cons, foots_nil, foots_append, foot_pt, ptb, ptb_mapA, foot_mapA, factsP_mapA, foot_bun, List.append_nil, List.nil_append, List.cons_append, List.nodup_cons, List.nodup_nil, List.mem_cons, List.not_mem_nil, List.mem_singleton, List.forall_mem_cons, not_or, not_false_eq_true, and_true, true_and, or_false, false_or, forall_eq_or_imp, forall_eq, implies_true, Nat.zero_add, Nat.reduceAdd, and_assoc, ptb_mapA, factsP_bun, ptb_bun, upd_listA, upd_datasA, upd_txA, upd_mapA, upd_bun, upd_fam, ptb_listA, factsP_listA, Nat.mul_one, ptb_datasA, factsP_datasA, ptb_txA, factsP_txA, itCells, ptb_fam, factsP_fam, ptb_learnA, factsP_learnA, rowCells] at cs
    try have v1 := (row_at (A := none) (O.hold (listA 38 4 rowCells (some ⟨ga, 0, none⟩) c2 rows) (List.mem_cons_of_mem _ (List.mem_cons_self ..))) HF.out hr)
    try simp only [cellsQ, roomP, and_assoc, and_true, true_and, Nat.add_zero, Nat.zero_add, Nat.reduceAdd, factsP, cellsP, roomP, foots_cons, foots_nil, foots_append, foot_pt, ptb, ptb_mapA, foot_mapA, factsP_mapA, foot_bun, List.append_nil, List.nil_append, List.cons_append, List.nodup_cons, List.nodup_nil, List.mem_cons, List.not_mem_nil, List.mem_singleton, List.forall_mem_cons, not_or, not_false_eq_true, and_true, true_and, or_false, false_or, forall_eq_or_imp, forall_eq, implies_true, Nat.zero_add, Nat.reduceAdd, and_assoc, ptb_mapA, factsP_bun, ptb_bun, upd_listA, upd_datasA, upd_txA, upd_mapA, upd_bun, upd_fam, ptb_listA, factsP_listA, Nat.mul_one, ptb_datasA, factsP_datasA, ptb_txA, factsP_txA, itCells, ptb_fam, factsP_fam, ptb_learnA, factsP_learnA, rowCells] at v1
    go_upto_region 3 with fail
    apply region_held_mem [false, false, false, true] (by kernel_rfl)
    case O => repeat' (first | (with_reducible exact O) | (with_reducible apply Mem.drew) | (with_reducible apply Mem.drewN) | (with_reducible apply Mem.ext) | (with_reducible apply Mem.alloc) | (with_reducible apply Mem.setCell) | (simp only [ptb, ptb_upd, foots_cons, List.mem_cons, World.size_alloc, size_ext, World.size_setCell, true_or, or_true, eq_self_iff_true, ptb_mapA, ptb_bun, ptb_listA, ptb_datasA, ptb_txA, ptb_fam, ptb_learnA]))
    case' h =>
      intro wr2 O'
      (try clear O)
      have O := O'
      clear O'
      (first | simp only [sel, rst, List.cons_append, List.nil_append, World.size_alloc, size_ext, World.size_setCell, size_setMap, World.size_drew, size_drewN, upd, List.set_cons_zero, List.set_cons_succ, if_true, if_false, reduceIte, not_false_eq_true, ne_lt0, ne_lt1, ne_lt2, ne_lt3, ne_lt4, upd_listA, upd_datasA, upd_txA, upd_mapA, upd_bun, upd_fam, cs] at O | simp only [sel, rst, List.cons_append, List.nil_append, World.size_alloc, size_ext, World.size_setCell, size_setMap, World.size_drew, size_drewN, upd, List.set_cons_zero, List.set_cons_succ, if_true, if_false, reduceIte, not_false_eq_true, ne_lt0, ne_lt1, ne_lt2, ne_lt3, ne_lt4, upd_listA, upd_datasA, upd_txA, upd_mapA, upd_bun, upd_fam] at O | skip)
      (try clear cs)
      (try clear v1)
      (try clear v2)
      (try clear v3)
    refine takeH (i := 0) (v := ?v2_1) rfl (by kernel_rfl) (by kernel_rfl) (by kernel_rfl) (fun _ _ _ h => h) (by rfl) ?y2_1 (O.sel [false, false, false, true]) ?r2_1
    case y2_1 =>
      intro WW hSw
      replace hSw : Mem _ _ WW _ := hSw
      have cs := hSw.facts
      simp only [sel, factsP, cellsP, roomP, foots_cons, foots_nil, foots_append, foot_pt, ptb, ptb_mapA, foot_mapA, factsP_mapA, foot_bun, List.append_nil, List.nil_append, List.cons_append, List.nodup_cons, List.nodup_nil, List.mem_cons, List.not_mem_nil, List.mem_singleton, List.forall_mem_cons, not_or, not_false_eq_true, and_true, true_and, or_false, false_or, forall_eq_or_imp, forall_eq, implies_true, Nat.zero_add, Nat.reduceAdd, and_assoc, ptb_mapA, factsP_bun, ptb_bun, upd_listA, upd_datasA, upd_txA, upd_mapA, upd_bun, upd_fam, ptb_listA, factsP_listA, Nat.mul_one, ptb_datasA, factsP_datasA, ptb_txA, factsP_txA, itCells, ptb_fam, factsP_fam, ptb_learnA, factsP_learnA, rowCells] at cs
      try have v1 := (row_at (A := none) (hSw.hold (listA 38 4 rowCells (some ⟨ga, 0, none⟩) c2 rows) (List.mem_cons_of_mem _ (List.mem_cons_self ..))) HF.out hr)
      try simp only [cellsQ, roomP, and_assoc, and_true, true_and, Nat.add_zero, Nat.zero_add, Nat.reduceAdd, factsP, cellsP, roomP, foots_cons, foots_nil, foots_append, foot_pt, ptb, ptb_mapA, foot_mapA, factsP_mapA, foot_bun, List.append_nil, List.nil_append, List.cons_append, List.nodup_cons, List.nodup_nil, List.mem_cons, List.not_mem_nil, List.mem_singleton, List.forall_mem_cons, not_or, not_false_eq_true, and_true, true_and, or_false, false_or, forall_eq_or_imp, forall_eq, implies_true, Nat.zero_add, Nat.reduceAdd, and_assoc, ptb_mapA, factsP_bun, ptb_bun, upd_listA, upd_datasA, upd_txA, upd_mapA, upd_bun, upd_fam, ptb_listA, factsP_listA, Nat.mul_one, ptb_datasA, factsP_datasA, ptb_txA, factsP_txA, itCells, ptb_fam, factsP_fam, ptb_learnA, factsP_learnA, rowCells] at v1
      (go_simp) <;> (with_reducible rfl)
    case' r2_1 =>
      try simp only [Act.put, List.setIfInBounds_toArray, List.set_cons_zero, List.set_cons_succ]
    refine takeH (i := 1) (v := ?v2_2) rfl (by kernel_rfl) (by kernel_rfl) (by kernel_rfl) (fun _ _ _ h => h) (by rfl) ?y2_2 (O.sel [false, false, false, true]) ?r2_2
    case y2_2 =>
      intro WW hSw
      (go_simp) <;> (with_reducible rfl)
    case' r2_2 =>
      try simp only [Act.put, List.setIfInBounds_toArray, List.set_cons_zero, List.set_cons_succ]
    refine takeH (i := 2) (v := ?v2_3) rfl (by kernel_rfl) (by kernel_rfl) (by kernel_rfl) (fun _ _ _ h => h) (by rfl) ?y2_3 (O.sel [false, false, false, true]) ?r2_3
    case y2_3 =>
      intro WW hSw
      (go_simp) <;> (with_reducible rfl)
    case' r2_3 =>
      try simp only [Act.put, List.setIfInBounds_toArray, List.set_cons_zero, List.set_cons_succ]
    refine takeH (i := 3) (v := ?v2_4) rfl (by kernel_rfl) (by kernel_rfl) (by kernel_rfl) (fun _ _ _ h => h) (by rfl) ?y2_4 (O.sel [false, false, false, true]) ?r2_4
    case y2_4 =>
      intro WW hSw
      (go_simp) <;> (with_reducible rfl)
    case' r2_4 =>
      try simp only [Act.put, List.setIfInBounds_toArray, List.set_cons_zero, List.set_cons_succ]
    refine takeH (i := 5) (v := ?v2_5) rfl (by kernel_rfl) (by kernel_rfl) (by kernel_rfl) (fun _ _ _ h => h) (by rfl) ?y2_5 (O.sel [false, false, false, true]) ?r2_5
    case y2_5 =>
      intro WW hSw
      replace hSw : Mem _ _ WW _ := hSw
      have cs := hSw.facts
      simp only [sel, factsP, cellsP, roomP, foots_cons, foots_nil, foots_append, foot_pt, ptb, ptb_mapA, foot_mapA, factsP_mapA, foot_bun, List.append_nil, List.nil_append, List.cons_append, List.nodup_cons, List.nodup_nil, List.mem_cons, List.not_mem_nil, List.mem_singleton, List.forall_mem_cons, not_or, not_false_eq_true, and_true, true_and, or_false, false_or, forall_eq_or_imp, forall_eq, implies_true, Nat.zero_add, Nat.reduceAdd, and_assoc, ptb_mapA, factsP_bun, ptb_bun, upd_listA, upd_datasA, upd_txA, upd_mapA, upd_bun, upd_fam, ptb_listA, factsP_listA, Nat.mul_one, ptb_datasA, factsP_datasA, ptb_txA, factsP_txA, itCells, ptb_fam, factsP_fam, ptb_learnA, factsP_learnA, rowCells] at cs
      try have v1 := (row_at (A := none) (hSw.hold (listA 38 4 rowCells (some ⟨ga, 0, none⟩) c2 rows) (List.mem_cons_of_mem _ (List.mem_cons_self ..))) HF.out hr)
      try simp only [cellsQ, roomP, and_assoc, and_true, true_and, Nat.add_zero, Nat.zero_add, Nat.reduceAdd, factsP, cellsP, roomP, foots_cons, foots_nil, foots_append, foot_pt, ptb, ptb_mapA, foot_mapA, factsP_mapA, foot_bun, List.append_nil, List.nil_append, List.cons_append, List.nodup_cons, List.nodup_nil, List.mem_cons, List.not_mem_nil, List.mem_singleton, List.forall_mem_cons, not_or, not_false_eq_true, and_true, true_and, or_false, false_or, forall_eq_or_imp, forall_eq, implies_true, Nat.zero_add, Nat.reduceAdd, and_assoc, ptb_mapA, factsP_bun, ptb_bun, upd_listA, upd_datasA, upd_txA, upd_mapA, upd_bun, upd_fam, ptb_listA, factsP_listA, Nat.mul_one, ptb_datasA, factsP_datasA, ptb_txA, factsP_txA, itCells, ptb_fam, factsP_fam, ptb_learnA, factsP_learnA, rowCells] at v1
      (go_simp) <;> (with_reducible rfl)
    case' r2_5 =>
      try simp only [Act.put, List.setIfInBounds_toArray, List.set_cons_zero, List.set_cons_succ]
    refine wpAnyH_ready (rs := [4]) (by kernel_rfl) (by simp) ?_
    refine consH rfl (fun K hK => ?_) AllReadyH.nil
    have cs := O.facts
    simp only [factsP, cellsP, roomP, foots_cons, foots_nil, foots_append, foot_pt, ptb, ptb_mapA, foot_mapA, factsP_mapA, foot_bun, List.append_nil, List.nil_append, List.cons_append, List.nodup_cons, List.nodup_nil, List.mem_cons, List.not_mem_nil, List.mem_singleton, List.forall_mem_cons, not_or, not_false_eq_true, and_true, true_and, or_false, false_or, forall_eq_or_imp, forall_eq, implies_true, Nat.zero_add, Nat.reduceAdd, and_assoc, ptb_mapA, factsP_bun, ptb_bun, upd_listA, upd_datasA, upd_txA, upd_mapA, upd_bun, upd_fam, ptb_listA, factsP_listA, Nat.mul_one, ptb_datasA, factsP_datasA, ptb_txA, factsP_txA, itCells, ptb_fam, factsP_fam, ptb_learnA, factsP_learnA, rowCells] at cs
    try have v1 := (row_at (A := none) (O.hold (listA 38 4 rowCells (some ⟨ga, 0, none⟩) c2 rows) (List.mem_cons_of_mem _ (List.mem_cons_self ..))) HF.out hr)
    try simp only [cellsQ, roomP, and_assoc, and_true, true_and, Nat.add_zero, Nat.zero_add, Nat.reduceAdd, factsP, cellsP, roomP, foots_cons, foots_nil, foots_append, foot_pt, ptb, ptb_mapA, foot_mapA, factsP_mapA, foot_bun, List.append_nil, List.nil_append, List.cons_append, List.nodup_cons, List.nodup_nil, List.mem_cons, List.not_mem_nil, List.mem_singleton, List.forall_mem_cons, not_or, not_false_eq_true, and_true, true_and, or_false, false_or, forall_eq_or_imp, forall_eq, implies_true, Nat.zero_add, Nat.reduceAdd, and_assoc, ptb_mapA, factsP_bun, ptb_bun, upd_listA, upd_datasA, upd_txA, upd_mapA, upd_bun, upd_fam, ptb_listA, factsP_listA, Nat.mul_one, ptb_datasA, factsP_datasA, ptb_txA, factsP_txA, itCells, ptb_fam, factsP_fam, ptb_learnA, factsP_learnA, rowCells] at v1
    go_simp
    apply Mem.atCall
    case h => repeat' (first | (with_reducible exact O) | (with_reducible apply Mem.drew) | (with_reducible apply Mem.drewN) | (with_reducible apply Mem.ext) | (with_reducible apply Mem.alloc) | (with_reducible apply Mem.setCell) | (simp only [ptb, ptb_upd, foots_cons, List.mem_cons, World.size_alloc, size_ext, World.size_setCell, true_or, or_true, eq_self_iff_true, ptb_mapA, ptb_bun, ptb_listA, ptb_datasA, ptb_txA, ptb_fam, ptb_learnA]))
    intro w2_6 O'
    (try clear O)
    have O := O'
    clear O'
    (first | simp only [sel, rst, List.cons_append, List.nil_append, World.size_alloc, size_ext, World.size_setCell, size_setMap, World.size_drew, size_drewN, upd, List.set_cons_zero, List.set_cons_succ, if_true, if_false, reduceIte, not_false_eq_true, ne_lt0, ne_lt1, ne_lt2, ne_lt3, ne_lt4, upd_listA, upd_datasA, upd_txA, upd_mapA, upd_bun, upd_fam, cs] at O | simp only [sel, rst, List.cons_append, List.nil_append, World.size_alloc, size_ext, World.size_setCell, size_setMap, World.size_drew, size_drewN, upd, List.set_cons_zero, List.set_cons_succ, if_true, if_false, reduceIte, not_false_eq_true, ne_lt0, ne_lt1, ne_lt2, ne_lt3, ne_lt4, upd_listA, upd_datasA, upd_txA, upd_mapA, upd_bun, upd_fam] at O | skip)
    (try clear cs)
    (try clear v1)
    (try clear v2)
    (try clear v3)
    refine (CR.out _).mono ?_
    rintro e w2_6' ⟨rfl, o⟩
    replace O := O.callp [] o
    clear o
    simp only [put, List.cons_append, List.nil_append] at O
    go_wp2_with fail
    refine hK.out _ _ (O.sel [false, false, false, true]) (fun _ => ?_)
    clear hK K
    refine takeH (i := 6) (v := ?v2_7) rfl (by kernel_rfl) (by kernel_rfl) (by kernel_rfl) (fun _ _ _ h => h) (by rfl) ?y2_7 (O.sel [false, false, false, true]) ?r2_7
    case y2_7 =>
      intro WW hSw
      replace hSw : Mem _ _ WW _ := hSw
      have cs := hSw.facts
      simp only [sel, factsP, cellsP, roomP, foots_cons, foots_nil, foots_append, foot_pt, ptb, ptb_mapA, foot_mapA, factsP_mapA, foot_bun, List.append_nil, List.nil_append, List.cons_append, List.nodup_cons, List.nodup_nil, List.mem_cons, List.not_mem_nil, List.mem_singleton, List.forall_mem_cons, not_or, not_false_eq_true, and_true, true_and, or_false, false_or, forall_eq_or_imp, forall_eq, implies_true, Nat.zero_add, Nat.reduceAdd, and_assoc, ptb_mapA, factsP_bun, ptb_bun, upd_listA, upd_datasA, upd_txA, upd_mapA, upd_bun, upd_fam, ptb_listA, factsP_listA, Nat.mul_one, ptb_datasA, factsP_datasA, ptb_txA, factsP_txA, itCells, ptb_fam, factsP_fam, ptb_learnA, factsP_learnA, rowCells] at cs
      try have v1 := (row_at (A := none) (hSw.hold (listA 38 4 rowCells (some ⟨ga, 0, none⟩) c2 rows) (List.mem_cons_of_mem _ (List.mem_cons_self ..))) HF.out hr)
      try simp only [cellsQ, roomP, and_assoc, and_true, true_and, Nat.add_zero, Nat.zero_add, Nat.reduceAdd, factsP, cellsP, roomP, foots_cons, foots_nil, foots_append, foot_pt, ptb, ptb_mapA, foot_mapA, factsP_mapA, foot_bun, List.append_nil, List.nil_append, List.cons_append, List.nodup_cons, List.nodup_nil, List.mem_cons, List.not_mem_nil, List.mem_singleton, List.forall_mem_cons, not_or, not_false_eq_true, and_true, true_and, or_false, false_or, forall_eq_or_imp, forall_eq, implies_true, Nat.zero_add, Nat.reduceAdd, and_assoc, ptb_mapA, factsP_bun, ptb_bun, upd_listA, upd_datasA, upd_txA, upd_mapA, upd_bun, upd_fam, ptb_listA, factsP_listA, Nat.mul_one, ptb_datasA, factsP_datasA, ptb_txA, factsP_txA, itCells, ptb_fam, factsP_fam, ptb_learnA, factsP_learnA, rowCells] at v1
      (go_simp) <;> (with_reducible rfl)
    case' r2_7 =>
      try simp only [Act.put, List.setIfInBounds_toArray, List.set_cons_zero, List.set_cons_succ]
    refine wpAnyH_ready (rs := [7]) (by kernel_rfl) (by simp) ?_
    refine consH rfl (fun K hK => ?_) AllReadyH.nil
    have cs := O.facts
    simp only [factsP, cellsP, roomP, foots_cons, foots_nil, foots_append, foot_pt, ptb, ptb_mapA, foot_mapA, factsP_mapA, foot_bun, List.append_nil, List.nil_append, List.cons_append, List.nodup_cons, List.nodup_nil, List.mem_cons, List.not_mem_nil, List.mem_singleton, List.forall_mem_cons, not_or, not_false_eq_true, and_true, true_and, or_false, false_or, forall_eq_or_imp, forall_eq, implies_true, Nat.zero_add, Nat.reduceAdd, and_assoc, ptb_mapA, factsP_bun, ptb_bun, upd_listA, upd_datasA, upd_txA, upd_mapA, upd_bun, upd_fam, ptb_listA, factsP_listA, Nat.mul_one, ptb_datasA, factsP_datasA, ptb_txA, factsP_txA, itCells, ptb_fam, factsP_fam, ptb_learnA, factsP_learnA, rowCells] at cs
    try have v1 := (row_at (A := none) (O.hold (listA 38 4 rowCells (some ⟨ga, 0, none⟩) c2 rows) (List.mem_cons_of_mem _ (List.mem_cons_self ..))) HF.out hr)
    try simp only [cellsQ, roomP, and_assoc, and_true, true_and, Nat.add_zero, Nat.zero_add, Nat.reduceAdd, factsP, cellsP, roomP, foots_cons, foots_nil, foots_append, foot_pt, ptb, ptb_mapA, foot_mapA, factsP_mapA, foot_bun, List.append_nil, List.nil_append, List.cons_append, List.nodup_cons, List.nodup_nil, List.mem_cons, List.not_mem_nil, List.mem_singleton, List.forall_mem_cons, not_or, not_false_eq_true, and_true, true_and, or_false, false_or, forall_eq_or_imp, forall_eq, implies_true, Nat.zero_add, Nat.reduceAdd, and_assoc, ptb_mapA, factsP_bun, ptb_bun, upd_listA, upd_datasA, upd_txA, upd_mapA, upd_bun, upd_fam, ptb_listA, factsP_listA, Nat.mul_one, ptb_datasA, factsP_datasA, ptb_txA, factsP_txA, itCells, ptb_fam, factsP_fam, ptb_learnA, factsP_learnA, rowCells] at v1
    go_simp
    refine Mem.atK ((O.front1 [false, true] rfl).listSet (j := r) (v := .int .i64 rv) (a' := rowSet f r rv) rowLen HF.out hr HRS.out) ?_
    intro w2_8 O'
    (try clear O)
    have O := O'
    clear O'
    try simp only [rst, List.cons_append, List.nil_append] at O
    (try clear cs)
    (try clear v1)
    (try clear v2)
    (try clear v3)
    refine hK.out _ _ (O.sel [false, false, false, true]) (fun _ => ?_)
    clear hK K
    refine wpAnyH_done (by kernel_rfl) ?_ _
    go_end0
    exact ⟨rfl, O.sel [true, false, true, true, true, true, true, true]⟩
end Go.Proofs.Ytplliabmnhigbaa
