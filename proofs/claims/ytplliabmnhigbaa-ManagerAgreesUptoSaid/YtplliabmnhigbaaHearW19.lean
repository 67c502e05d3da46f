/- WALK: a manager's Hear. -/
import Derived.Test.YtplliabmnhigbaaHear19
set_option linter.unusedVariables false
set_option linter.unusedSimpArgs false
namespace Go.Proofs.Ytplliabmnhigbaa
open Go.RowKit Go.Tk
def EntM.tx (E : EntM) : TxR := ⟨E.id, E.client, E.m0, E.m1, E.m2, .slice E.A E.s.length E.c, E.s.map ItS.r⟩
def EntM.hears (E : EntM) (bucket replica f : Int) (b : Ballot) (v : ByteArray) : Int × Int × List (Inst × Learn11) × Int := hear11 E.tx.right E.id E.s (plnOf E.ls) E.d bucket replica f b v
theorem pln_mset (ls : List (Inst × LnM)) (i : Inst) (x : LnM) : plnOf (mset ls i x) = mset (plnOf ls) i x.l := by
  induction ls with
  | nil => rfl
  | cons y ls ih =>
    simp only [plnOf, List.map_cons] at ih ⊢
    unfold mset
    by_cases h : y.1 = i
    · simp [h]
    · simp [h, ih]
theorem ptr_mset (ls : List (Inst × LnM)) (i : Inst) (x y : LnM) (hy : mget ls i = some y) (h : x.lb = y.lb) : (mset ls i x).map lnPtr = ls.map lnPtr := by
  induction ls with
  | nil => simp [mget] at hy
  | cons z ls ih =>
    rw [mget_cons] at hy
    unfold mset
    by_cases hz : z.1 = i
    · rw [if_pos hz] at hy
      injection hy with hy
      simp only [hz, if_true, List.map_cons, lnPtr]
      rw [h, ← hy]
    · rw [if_neg hz] at hy
      simp only [hz, if_false, List.map_cons, ih hy]
def HP (E : EntM) (ls : List (Inst × LnM)) (d : Int) (X Y Z W : Asn) : List Asn :=
  [.pt E.eb [.int .u64 E.id, .int .i64 E.client, .int .i64 E.m0, .int .i64 E.m1, .int .i64 E.m2, .slice E.A E.s.length E.c, .map (some E.lb), .int .i64 d] 101, txA E.A E.c E.s, mapA instKey ptrV E.lb (ls.map lnPtr), fam lnF ls, X, Y, Z, W]
theorem m_votesQ (w : World) (E : EntM) (hg : E.good) (h : Pre w E.parts) :
    Calls Try.prog 41 #[.pointer (some ⟨E.eb, 0, none⟩)] w (fun e w' => ∃ q : Option Addr × Nat, e = .returned (.slice q.1 E.s.length q.2) ∧ Mem w (foots E.parts) w' (listA 38 4 rowCells q.1 q.2 (votesAfter (plnOf E.ls) E.s.length (visits E.id E.s)) :: E.parts)) :=
  (m_votes w E hg h).mono fun e w' ⟨A, c, h1, h2⟩ => ⟨(A, c), h1, h2⟩
set_option maxRecDepth 100000 in
set_option maxHeartbeats 16000000 in
theorem m_Hear (w : World) (mb mp : Nat) (OA : Option Addr) (oc : Nat) (es : List EntM) (i : Nat) (E : EntM) (hi : es[i]? = some E) (hg : E.good) (hok : ∀ x ∈ E.ls, LnOk x.2.l) (h : Pre w (mgrL mb mp OA oc es)) (bucket replica f : Int) (b : Ballot) (v : ByteArray) (hwf : (⟨E.id, bucket, replica, 0⟩ : Inst).wf) :
    Calls Try.prog 13 #[.pointer (some ⟨mb, 0, none⟩), .int .u64 E.id, .int .i64 bucket, .int .i64 replica, .int .i64 f, b.val, .string v] w (fun e w' => e = .returned (.tuple #[.int .i64 (E.hears bucket replica f b v).1, .int .i64 (E.hears bucket replica f b v).2.1]) ∧
      ∃ ls', plnOf ls' = (E.hears bucket replica f b v).2.2.1 ∧ Mem w (foots (mgrL mb mp OA oc es)) w' (mgrL mb mp OA oc (es.set i { E with ls := ls', d := (E.hears bucket replica f b v).2.2.2 }))) := by
  obtain ⟨r, hr⟩ : ∃ r, r = E.hears bucket replica f b v := ⟨_, rfl⟩
  rw [← hr]
  have O : Mem w (foots (mgrL mb mp OA oc es)) w (mgrL mb mp OA oc es) := h
  have hent : mget (es.map (fun E => (E.id, E.eb))) E.id = some E.eb := by
    have hnd : (keysOf (es.map (fun E => (E.id, E.eb)))).Nodup := MapAt.nodup (κ := u64K) (vv := ptrV) (b := mp) (h.map (by simp [mgrL]))
    exact mget_at hnd (j := i) (by rw [List.getElem?_map, hi]; rfl)
  have hlnd : (keysOf E.ls).Nodup := by
    have O2 := mgr_open (L := []) (by simpa using O) hi
    have := MapAt.nodup (κ := instKey) (vv := ptrV) (b := E.lb) (m := E.ls.map lnPtr) (O2.map (by simp [EntM.parts]))
    simpa [keysOf, lnPtr, Function.comp_def] using this
  have CLOSE := Lib.hid (fun (E' : EntM) (hid : E'.id = E.id) (heb : E'.eb = E.eb) (W : World) (hW : Mem w (foots (mgrL mb mp OA oc es)) W (E'.parts ++ [fam entA (es.eraseIdx i), .pt mb [.slice OA es.length oc, .map (some mp)] 95, listA 22 1 u64Cells OA oc (es.map (·.id)), mapA u64K ptrV mp (es.map (fun E => (E.id, E.eb)))])) => by
    have := mgr_close (L := []) hi hid heb hW
    simpa using this)
  have O2 := mgr_open (L := []) (by simpa using O) hi
  clear O h
  generalize foots (mgrL mb mp OA oc es) = fp at *
  have O := O2
  clear O2
  simp only [EntM.parts, EntM.cells, List.cons_append, List.nil_append] at O
  have LKE := Lib.hid (fun W (hW : MapAt u64K ptrV W mp (es.map (fun E => (E.id, E.eb)))) => by
    have := look_ent hW (id := E.id) hg.id
    rw [hent] at this
    simp only [Option.map_some, Option.getD_some, ptrV] at this
    exact this)
  have LKL := Lib.hid (fun W (hW : MapAt instKey ptrV W E.lb (E.ls.map lnPtr)) => look_ln hW hwf)
  have HW := Lib.hid hwf
  have HG := Lib.hid hg
  have HOK := Lib.hid hok
  have HND := Lib.hid hlnd
  have HI := Lib.hid hi
  clear hwf hg hok hlnd hi hent
  generalize es.eraseIdx i = RS at *
  unfold EntM.hears hear11 at hr
  rw [mget_pln] at hr
  simp only [Inst.val] at LKL
  obtain ⟨br, bn⟩ := b
  simp only [Ballot.val]
  cases hx : mget E.ls ⟨E.id, bucket, replica, 0⟩ with
  | none =>
    rw [hx] at hr LKL
    simp only [Option.map_none, Option.getD_none] at hr LKL
    subst hr
    skip
    go_enter Try.func13, Try.ntmps13
    have cs := O.facts
    try simp only [factsP, cellsP, roomP, foots_cons, foots_nil, foots_append, foot_pt, ptb, ptb_mapA, foot_mapA, factsP_mapA, foot_bun, List.append_nil, List.nil_append, List.cons_append, List.nodup_cons, List.nodup_nil, List.mem_cons, List.not_mem_nil, List.mem_singleton, List.forall_mem_cons, not_or, not_false_eq_true, and_true, true_and, or_false, false_or, forall_eq_or_imp, forall_eq, implies_true, Nat.zero_add, Nat.reduceAdd, and_assoc, ptb_mapA, factsP_bun, ptb_bun, upd_listA, upd_datasA, upd_txA, upd_mapA, upd_bun, upd_fam, ptb_listA, factsP_listA, Nat.mul_one, ptb_datasA, factsP_datasA, ptb_txA, factsP_txA, itCells, ptb_fam, factsP_fam, ptb_learnA, factsP_learnA] at cs
    try have v1 := (LKE.out _ (O.map (κ := u64K) (vv := ptrV) (by simp)))
    try simp only [cellsQ, roomP, and_assoc, and_true, true_and, Nat.add_zero, Nat.zero_add, Nat.reduceAdd, factsP, cellsP, roomP, foots_cons, foots_nil, foots_append, foot_pt, ptb, ptb_mapA, foot_mapA, factsP_mapA, foot_bun, List.append_nil, List.nil_append, List.cons_append, List.nodup_cons, List.nodup_nil, List.mem_cons, List.not_mem_nil, List.mem_singleton, List.forall_mem_cons, not_or, not_false_eq_true, and_true, true_and, or_false, false_or, forall_eq_or_imp, forall_eq, implies_true, Nat.zero_add, Nat.reduceAdd, and_assoc, ptb_mapA, factsP_bun, ptb_bun, upd_listA, upd_datasA, upd_txA, upd_mapA, upd_bun, upd_fam, ptb_listA, factsP_listA, Nat.mul_one, ptb_datasA, factsP_datasA, ptb_txA, factsP_txA, itCells, ptb_fam, factsP_fam, ptb_learnA, factsP_learnA] at v1
    try have v2 := (LKL.out _ (O.map (κ := instKey) (vv := ptrV) (by simp)))
    try simp only [cellsQ, roomP, and_assoc, and_true, true_and, Nat.add_zero, Nat.zero_add, Nat.reduceAdd, factsP, cellsP, roomP, foots_cons, foots_nil, foots_append, foot_pt, ptb, ptb_mapA, foot_mapA, factsP_mapA, foot_bun, List.append_nil, List.nil_append, List.cons_append, List.nodup_cons, List.nodup_nil, List.mem_cons, List.not_mem_nil, List.mem_singleton, List.forall_mem_cons, not_or, not_false_eq_true, and_true, true_and, or_false, false_or, forall_eq_or_imp, forall_eq, implies_true, Nat.zero_add, Nat.reduceAdd, and_assoc, ptb_mapA, factsP_bun, ptb_bun, upd_listA, upd_datasA, upd_txA, upd_mapA, upd_bun, upd_fam, ptb_listA, factsP_listA, Nat.mul_one, ptb_datasA, factsP_datasA, ptb_txA, factsP_txA, itCells, ptb_fam, factsP_fam, ptb_learnA, factsP_learnA] at v2
    go_upto_region 1 with fail
    first | apply Mem.atCall | apply Mem.atCode | apply Mem.atList
    case h => repeat' (first | (with_reducible exact O) | (with_reducible apply Mem.drew) | (with_reducible apply Mem.drewN) | (with_reducible apply Mem.ext) | (with_reducible apply Mem.alloc) | (with_reducible apply Mem.setCell) | (simp only [ptb, ptb_upd, foots_cons, List.mem_cons, World.size_alloc, size_ext, World.size_setCell, true_or, or_true, eq_self_iff_true, ptb_mapA, ptb_bun, ptb_listA, ptb_datasA, ptb_txA, ptb_fam, ptb_learnA]))
    case' k =>
      intro w1 O'
      (try clear O)
      have O := O'
      clear O'
      (first | simp only [sel, rst, List.cons_append, List.nil_append, World.size_alloc, size_ext, World.size_setCell, size_setMap, World.size_drew, size_drewN, upd, List.set_cons_zero, List.set_cons_succ, if_true, if_false, reduceIte, not_false_eq_true, ne_lt0, ne_lt1, ne_lt2, ne_lt3, ne_lt4, upd_listA, upd_datasA, upd_txA, upd_mapA, upd_bun, upd_fam, cs] at O | simp only [sel, rst, List.cons_append, List.nil_append, World.size_alloc, size_ext, World.size_setCell, size_setMap, World.size_drew, size_drewN, upd, List.set_cons_zero, List.set_cons_succ, if_true, if_false, reduceIte, not_false_eq_true, ne_lt0, ne_lt1, ne_lt2, ne_lt3, ne_lt4, upd_listA, upd_datasA, upd_txA, upd_mapA, upd_bun, upd_fam] at O | skip)
      (try clear cs)
      (try clear v1)
      (try clear v2)
      (try clear v3)
    generalize w.heap.size = bb at O ⊢
    have cs := O.facts
    try simp only [factsP, cellsP, roomP, foots_cons, foots_nil, foots_append, foot_pt, ptb, ptb_mapA, foot_mapA, factsP_mapA, foot_bun, List.append_nil, List.nil_append, List.cons_append, List.nodup_cons, List.nodup_nil, List.mem_cons, List.not_mem_nil, List.mem_singleton, List.forall_mem_cons, not_or, not_false_eq_true, and_true, true_and, or_false, false_or, forall_eq_or_imp, forall_eq, implies_true, Nat.zero_add, Nat.reduceAdd, and_assoc, ptb_mapA, factsP_bun, ptb_bun, upd_listA, upd_datasA, upd_txA, upd_mapA, upd_bun, upd_fam, ptb_listA, factsP_listA, Nat.mul_one, ptb_datasA, factsP_datasA, ptb_txA, factsP_txA, itCells, ptb_fam, factsP_fam, ptb_learnA, factsP_learnA] at cs
    try have v1 := (LKE.out _ (O.map (κ := u64K) (vv := ptrV) (by simp)))
    try simp only [cellsQ, roomP, and_assoc, and_true, true_and, Nat.add_zero, Nat.zero_add, Nat.reduceAdd, factsP, cellsP, roomP, foots_cons, foots_nil, foots_append, foot_pt, ptb, ptb_mapA, foot_mapA, factsP_mapA, foot_bun, List.append_nil, List.nil_append, List.cons_append, List.nodup_cons, List.nodup_nil, List.mem_cons, List.not_mem_nil, List.mem_singleton, List.forall_mem_cons, not_or, not_false_eq_true, and_true, true_and, or_false, false_or, forall_eq_or_imp, forall_eq, implies_true, Nat.zero_add, Nat.reduceAdd, and_assoc, ptb_mapA, factsP_bun, ptb_bun, upd_listA, upd_datasA, upd_txA, upd_mapA, upd_bun, upd_fam, ptb_listA, factsP_listA, Nat.mul_one, ptb_datasA, factsP_datasA, ptb_txA, factsP_txA, itCells, ptb_fam, factsP_fam, ptb_learnA, factsP_learnA] at v1
    try have v2 := (LKL.out _ (O.map (κ := instKey) (vv := ptrV) (by simp)))
    try simp only [cellsQ, roomP, and_assoc, and_true, true_and, Nat.add_zero, Nat.zero_add, Nat.reduceAdd, factsP, cellsP, roomP, foots_cons, foots_nil, foots_append, foot_pt, ptb, ptb_mapA, foot_mapA, factsP_mapA, foot_bun, List.append_nil, List.nil_append, List.cons_append, List.nodup_cons, List.nodup_nil, List.mem_cons, List.not_mem_nil, List.mem_singleton, List.forall_mem_cons, not_or, not_false_eq_true, and_true, true_and, or_false, false_or, forall_eq_or_imp, forall_eq, implies_true, Nat.zero_add, Nat.reduceAdd, and_assoc, ptb_mapA, factsP_bun, ptb_bun, upd_listA, upd_datasA, upd_txA, upd_mapA, upd_bun, upd_fam, ptb_listA, factsP_listA, Nat.mul_one, ptb_datasA, factsP_datasA, ptb_txA, factsP_txA, itCells, ptb_fam, factsP_fam, ptb_learnA, factsP_learnA] at v2
    go_wp2_with fail
    go_ret2
    refine ⟨rfl, E.ls, rfl, CLOSE.out { E with ls := E.ls, d := E.d } rfl rfl _ ?_⟩
    simp only [EntM.parts, EntM.cells, List.cons_append, List.nil_append]
    exact O.sel [false, true, true, true, true, true, true, true, true]
  | some x =>
    rw [hx] at hr LKL
    simp only [Option.map_some, Option.getD_some, ptrV] at hr LKL
    have HX := Lib.hid hx
    have CRD := Lib.hid (fun W => mRead v W)
    have CA := Lib.hid (fun W (hW : Pre W [fam lnF E.ls]) => lA_Accepted_fam W E.ls _ x f ⟨br, bn⟩ v hW HND.out hx (HOK.out _ (mget_mem hx)))
    have CV := Lib.hid (fun W ls (hg' : ({ E with ls := ls } : EntM).good) (hW : Pre W ({ E with ls := ls } : EntM).parts) => m_votesQ W { E with ls := ls } hg' hW)
    have CD := Lib.hid (fun W A2 c2 rows hn (hW : Pre W [listA 38 4 rowCells A2 c2 rows, txA E.A E.c E.s]) => q_Decide W E.id E.client E.m0 E.m1 E.m2 E.A E.c E.s A2 c2 rows HG.out.len hn ⟨HG.out.m0, HG.out.m1, HG.out.m2⟩ hW)
    clear hx
    generalize readOf v = rv at *
    by_cases hv0 : rv = 0
    · rw [if_pos hv0] at hr
      subst hr hv0
      skip
      go_enter Try.func13, Try.ntmps13
      have cs := O.facts
      try simp only [factsP, cellsP, roomP, foots_cons, foots_nil, foots_append, foot_pt, ptb, ptb_mapA, foot_mapA, factsP_mapA, foot_bun, List.append_nil, List.nil_append, List.cons_append, List.nodup_cons, List.nodup_nil, List.mem_cons, List.not_mem_nil, List.mem_singleton, List.forall_mem_cons, not_or, not_false_eq_true, and_true, true_and, or_false, false_or, forall_eq_or_imp, forall_eq, implies_true, Nat.zero_add, Nat.reduceAdd, and_assoc, ptb_mapA, factsP_bun, ptb_bun, upd_listA, upd_datasA, upd_txA, upd_mapA, upd_bun, upd_fam, ptb_listA, factsP_listA, Nat.mul_one, ptb_datasA, factsP_datasA, ptb_txA, factsP_txA, itCells, ptb_fam, factsP_fam, ptb_learnA, factsP_learnA] at cs
      try have v1 := (LKE.out _ (O.map (κ := u64K) (vv := ptrV) (by simp)))
      try simp only [cellsQ, roomP, and_assoc, and_true, true_and, Nat.add_zero, Nat.zero_add, Nat.reduceAdd, factsP, cellsP, roomP, foots_cons, foots_nil, foots_append, foot_pt, ptb, ptb_mapA, foot_mapA, factsP_mapA, foot_bun, List.append_nil, List.nil_append, List.cons_append, List.nodup_cons, List.nodup_nil, List.mem_cons, List.not_mem_nil, List.mem_singleton, List.forall_mem_cons, not_or, not_false_eq_true, and_true, true_and, or_false, false_or, forall_eq_or_imp, forall_eq, implies_true, Nat.zero_add, Nat.reduceAdd, and_assoc, ptb_mapA, factsP_bun, ptb_bun, upd_listA, upd_datasA, upd_txA, upd_mapA, upd_bun, upd_fam, ptb_listA, factsP_listA, Nat.mul_one, ptb_datasA, factsP_datasA, ptb_txA, factsP_txA, itCells, ptb_fam, factsP_fam, ptb_learnA, factsP_learnA] at v1
      try have v2 := (LKL.out _ (O.map (κ := instKey) (vv := ptrV) (by simp)))
      try simp only [cellsQ, roomP, and_assoc, and_true, true_and, Nat.add_zero, Nat.zero_add, Nat.reduceAdd, factsP, cellsP, roomP, foots_cons, foots_nil, foots_append, foot_pt, ptb, ptb_mapA, foot_mapA, factsP_mapA, foot_bun, List.append_nil, List.nil_append, List.cons_append, List.nodup_cons, List.nodup_nil, List.mem_cons, List.not_mem_nil, List.mem_singleton, List.forall_mem_cons, not_or, not_false_eq_true, and_true, true_and, or_false, false_or, forall_eq_or_imp, forall_eq, implies_true, Nat.zero_add, Nat.reduceAdd, and_assoc, ptb_mapA, factsP_bun, ptb_bun, upd_listA, upd_datasA, upd_txA, upd_mapA, upd_bun, upd_fam, ptb_listA, factsP_listA, Nat.mul_one, ptb_datasA, factsP_datasA, ptb_txA, factsP_txA, itCells, ptb_fam, factsP_fam, ptb_learnA, factsP_learnA] at v2
      go_upto_region 1 with fail
      first | apply Mem.atCall | apply Mem.atCode | apply Mem.atList
      case h => repeat' (first | (with_reducible exact O) | (with_reducible apply Mem.drew) | (with_reducible apply Mem.drewN) | (with_reducible apply Mem.ext) | (with_reducible apply Mem.alloc) | (with_reducible apply Mem.setCell) | (simp only [ptb, ptb_upd, foots_cons, List.mem_cons, World.size_alloc, size_ext, World.size_setCell, true_or, or_true, eq_self_iff_true, ptb_mapA, ptb_bun, ptb_listA, ptb_datasA, ptb_txA, ptb_fam, ptb_learnA]))
      case' k =>
        intro w1 O'
        (try clear O)
        have O := O'
        clear O'
        (first | simp only [sel, rst, List.cons_append, List.nil_append, World.size_alloc, size_ext, World.size_setCell, size_setMap, World.size_drew, size_drewN, upd, List.set_cons_zero, List.set_cons_succ, if_true, if_false, reduceIte, not_false_eq_true, ne_lt0, ne_lt1, ne_lt2, ne_lt3, ne_lt4, upd_listA, upd_datasA, upd_txA, upd_mapA, upd_bun, upd_fam, cs] at O | simp only [sel, rst, List.cons_append, List.nil_append, World.size_alloc, size_ext, World.size_setCell, size_setMap, World.size_drew, size_drewN, upd, List.set_cons_zero, List.set_cons_succ, if_true, if_false, reduceIte, not_false_eq_true, ne_lt0, ne_lt1, ne_lt2, ne_lt3, ne_lt4, upd_listA, upd_datasA, upd_txA, upd_mapA, upd_bun, upd_fam] at O | skip)
        (try clear cs)
        (try clear v1)
        (try clear v2)
        (try clear v3)
      generalize w.heap.size = bb at O ⊢
      have cs := O.facts
      try simp only [factsP, cellsP, roomP, foots_cons, foots_nil, foots_append, foot_pt, ptb, ptb_mapA, foot_mapA, factsP_mapA, foot_bun, List.append_nil, List.nil_append, List.cons_append, List.nodup_cons, List.nodup_nil, List.mem_cons, List.not_mem_nil, List.mem_singleton, List.forall_mem_cons, not_or, not_false_eq_true, and_true, true_and, or_false, false_or, forall_eq_or_imp, forall_eq, implies_true, Nat.zero_add, Nat.reduceAdd, and_assoc, ptb_mapA, factsP_bun, ptb_bun, upd_listA, upd_datasA, upd_txA, upd_mapA, upd_bun, upd_fam, ptb_listA, factsP_listA, Nat.mul_one, ptb_datasA, factsP_datasA, ptb_txA, factsP_txA, itCells, ptb_fam, factsP_fam, ptb_learnA, factsP_learnA] at cs
      try have v1 := (LKE.out _ (O.map (κ := u64K) (vv := ptrV) (by simp)))
      try simp only [cellsQ, roomP, and_assoc, and_true, true_and, Nat.add_zero, Nat.zero_add, Nat.reduceAdd, factsP, cellsP, roomP, foots_cons, foots_nil, foots_append, foot_pt, ptb, ptb_mapA, foot_mapA, factsP_mapA, foot_bun, List.append_nil, List.nil_append, List.cons_append, List.nodup_cons, List.nodup_nil, List.mem_cons, List.not_mem_nil, List.mem_singleton, List.forall_mem_cons, not_or, not_false_eq_true, and_true, true_and, or_false, false_or, forall_eq_or_imp, forall_eq, implies_true, Nat.zero_add, Nat.reduceAdd, and_assoc, ptb_mapA, factsP_bun, ptb_bun, upd_listA, upd_datasA, upd_txA, upd_mapA, upd_bun, upd_fam, ptb_listA, factsP_listA, Nat.mul_one, ptb_datasA, factsP_datasA, ptb_txA, factsP_txA, itCells, ptb_fam, factsP_fam, ptb_learnA, factsP_learnA] at v1
      try have v2 := (LKL.out _ (O.map (κ := instKey) (vv := ptrV) (by simp)))
      try simp only [cellsQ, roomP, and_assoc, and_true, true_and, Nat.add_zero, Nat.zero_add, Nat.reduceAdd, factsP, cellsP, roomP, foots_cons, foots_nil, foots_append, foot_pt, ptb, ptb_mapA, foot_mapA, factsP_mapA, foot_bun, List.append_nil, List.nil_append, List.cons_append, List.nodup_cons, List.nodup_nil, List.mem_cons, List.not_mem_nil, List.mem_singleton, List.forall_mem_cons, not_or, not_false_eq_true, and_true, true_and, or_false, false_or, forall_eq_or_imp, forall_eq, implies_true, Nat.zero_add, Nat.reduceAdd, and_assoc, ptb_mapA, factsP_bun, ptb_bun, upd_listA, upd_datasA, upd_txA, upd_mapA, upd_bun, upd_fam, ptb_listA, factsP_listA, Nat.mul_one, ptb_datasA, factsP_datasA, ptb_txA, factsP_txA, itCells, ptb_fam, factsP_fam, ptb_learnA, factsP_learnA] at v2
      go_wp2_with fail
      first | apply Mem.atCall | apply Mem.atCode | apply Mem.atList
      case h => repeat' (first | (with_reducible exact O) | (with_reducible apply Mem.drew) | (with_reducible apply Mem.drewN) | (with_reducible apply Mem.ext) | (with_reducible apply Mem.alloc) | (with_reducible apply Mem.setCell) | (simp only [ptb, ptb_upd, foots_cons, List.mem_cons, World.size_alloc, size_ext, World.size_setCell, true_or, or_true, eq_self_iff_true, ptb_mapA, ptb_bun, ptb_listA, ptb_datasA, ptb_txA, ptb_fam, ptb_learnA]))
      case' k =>
        intro w2 O'
        (try clear O)
        have O := O'
        clear O'
        (first | simp only [sel, rst, List.cons_append, List.nil_append, World.size_alloc, size_ext, World.size_setCell, size_setMap, World.size_drew, size_drewN, upd, List.set_cons_zero, List.set_cons_succ, if_true, if_false, reduceIte, not_false_eq_true, ne_lt0, ne_lt1, ne_lt2, ne_lt3, ne_lt4, upd_listA, upd_datasA, upd_txA, upd_mapA, upd_bun, upd_fam, cs] at O | simp only [sel, rst, List.cons_append, List.nil_append, World.size_alloc, size_ext, World.size_setCell, size_setMap, World.size_drew, size_drewN, upd, List.set_cons_zero, List.set_cons_succ, if_true, if_false, reduceIte, not_false_eq_true, ne_lt0, ne_lt1, ne_lt2, ne_lt3, ne_lt4, upd_listA, upd_datasA, upd_txA, upd_mapA, upd_bun, upd_fam] at O | skip)
        (try clear cs)
        (try clear v1)
        (try clear v2)
        (try clear v3)
      refine (CRD.out _).mono ?_
      rintro e w3 ⟨rfl, o⟩
      replace O := O.callp [] o
      clear o
      simp only [put, List.cons_append, List.nil_append] at O
      have cs := O.facts
      try simp only [factsP, cellsP, roomP, foots_cons, foots_nil, foots_append, foot_pt, ptb, ptb_mapA, foot_mapA, factsP_mapA, foot_bun, List.append_nil, List.nil_append, List.cons_append, List.nodup_cons, List.nodup_nil, List.mem_cons, List.not_mem_nil, List.mem_singleton, List.forall_mem_cons, not_or, not_false_eq_true, and_true, true_and, or_false, false_or, forall_eq_or_imp, forall_eq, implies_true, Nat.zero_add, Nat.reduceAdd, and_assoc, ptb_mapA, factsP_bun, ptb_bun, upd_listA, upd_datasA, upd_txA, upd_mapA, upd_bun, upd_fam, ptb_listA, factsP_listA, Nat.mul_one, ptb_datasA, factsP_datasA, ptb_txA, factsP_txA, itCells, ptb_fam, factsP_fam, ptb_learnA, factsP_learnA] at cs
      try have v1 := (LKE.out _ (O.map (κ := u64K) (vv := ptrV) (by simp)))
      try simp only [cellsQ, roomP, and_assoc, and_true, true_and, Nat.add_zero, Nat.zero_add, Nat.reduceAdd, factsP, cellsP, roomP, foots_cons, foots_nil, foots_append, foot_pt, ptb, ptb_mapA, foot_mapA, factsP_mapA, foot_bun, List.append_nil, List.nil_append, List.cons_append, List.nodup_cons, List.nodup_nil, List.mem_cons, List.not_mem_nil, List.mem_singleton, List.forall_mem_cons, not_or, not_false_eq_true, and_true, true_and, or_false, false_or, forall_eq_or_imp, forall_eq, implies_true, Nat.zero_add, Nat.reduceAdd, and_assoc, ptb_mapA, factsP_bun, ptb_bun, upd_listA, upd_datasA, upd_txA, upd_mapA, upd_bun, upd_fam, ptb_listA, factsP_listA, Nat.mul_one, ptb_datasA, factsP_datasA, ptb_txA, factsP_txA, itCells, ptb_fam, factsP_fam, ptb_learnA, factsP_learnA] at v1
      try have v2 := (LKL.out _ (O.map (κ := instKey) (vv := ptrV) (by simp)))
      try simp only [cellsQ, roomP, and_assoc, and_true, true_and, Nat.add_zero, Nat.zero_add, Nat.reduceAdd, factsP, cellsP, roomP, foots_cons, foots_nil, foots_append, foot_pt, ptb, ptb_mapA, foot_mapA, factsP_mapA, foot_bun, List.append_nil, List.nil_append, List.cons_append, List.nodup_cons, List.nodup_nil, List.mem_cons, List.not_mem_nil, List.mem_singleton, List.forall_mem_cons, not_or, not_false_eq_true, and_true, true_and, or_false, false_or, forall_eq_or_imp, forall_eq, implies_true, Nat.zero_add, Nat.reduceAdd, and_assoc, ptb_mapA, factsP_bun, ptb_bun, upd_listA, upd_datasA, upd_txA, upd_mapA, upd_bun, upd_fam, ptb_listA, factsP_listA, Nat.mul_one, ptb_datasA, factsP_datasA, ptb_txA, factsP_txA, itCells, ptb_fam, factsP_fam, ptb_learnA, factsP_learnA] at v2
      go_wp2_with fail
      go_ret2
      refine ⟨rfl, E.ls, rfl, CLOSE.out { E with ls := E.ls, d := E.d } rfl rfl _ ?_⟩
      simp only [EntM.parts, EntM.cells, List.cons_append, List.nil_append]
      exact O.sel [false, true, true, true, true, true, true, true, true]
    rw [if_neg hv0] at hr
    have hv1 : (rv == 0) = false := by simpa using hv0
    by_cases hf0 : f < 0 ∨ 3 ≤ f
    · rw [if_pos hf0] at hr
      subst hr
      skip
      by_cases hf1 : f < 0
      · have hf2 : decide (f < 0) = true := by simpa using hf1
        clear hf0 hf1
        go_enter Try.func13, Try.ntmps13
        have cs := O.facts
        try simp only [factsP, cellsP, roomP, foots_cons, foots_nil, foots_append, foot_pt, ptb, ptb_mapA, foot_mapA, factsP_mapA, foot_bun, List.append_nil, List.nil_append, List.cons_append, List.nodup_cons, List.nodup_nil, List.mem_cons, List.not_mem_nil, List.mem_singleton, List.forall_mem_cons, not_or, not_false_eq_true, and_true, true_and, or_false, false_or, forall_eq_or_imp, forall_eq, implies_true, Nat.zero_add, Nat.reduceAdd, and_assoc, ptb_mapA, factsP_bun, ptb_bun, upd_listA, upd_datasA, upd_txA, upd_mapA, upd_bun, upd_fam, ptb_listA, factsP_listA, Nat.mul_one, ptb_datasA, factsP_datasA, ptb_txA, factsP_txA, itCells, ptb_fam, factsP_fam, ptb_learnA, factsP_learnA] at cs
        try have v1 := (LKE.out _ (O.map (κ := u64K) (vv := ptrV) (by simp)))
        try simp only [cellsQ, roomP, and_assoc, and_true, true_and, Nat.add_zero, Nat.zero_add, Nat.reduceAdd, factsP, cellsP, roomP, foots_cons, foots_nil, foots_append, foot_pt, ptb, ptb_mapA, foot_mapA, factsP_mapA, foot_bun, List.append_nil, List.nil_append, List.cons_append, List.nodup_cons, List.nodup_nil, List.mem_cons, List.not_mem_nil, List.mem_singleton, List.forall_mem_cons, not_or, not_false_eq_true, and_true, true_and, or_false, false_or, forall_eq_or_imp, forall_eq, implies_true, Nat.zero_add, Nat.reduceAdd, and_assoc, ptb_mapA, factsP_bun, ptb_bun, upd_listA, upd_datasA, upd_txA, upd_mapA, upd_bun, upd_fam, ptb_listA, factsP_listA, Nat.mul_one, ptb_datasA, factsP_datasA, ptb_txA, factsP_txA, itCells, ptb_fam, factsP_fam, ptb_learnA, factsP_learnA] at v1
        try have v2 := (LKL.out _ (O.map (κ := instKey) (vv := ptrV) (by simp)))
        try simp only [cellsQ, roomP, and_assoc, and_true, true_and, Nat.add_zero, Nat.zero_add, Nat.reduceAdd, factsP, cellsP, roomP, foots_cons, foots_nil, foots_append, foot_pt, ptb, ptb_mapA, foot_mapA, factsP_mapA, foot_bun, List.append_nil, List.nil_append, List.cons_append, List.nodup_cons, List.nodup_nil, List.mem_cons, List.not_mem_nil, List.mem_singleton, List.forall_mem_cons, not_or, not_false_eq_true, and_true, true_and, or_false, false_or, forall_eq_or_imp, forall_eq, implies_true, Nat.zero_add, Nat.reduceAdd, and_assoc, ptb_mapA, factsP_bun, ptb_bun, upd_listA, upd_datasA, upd_txA, upd_mapA, upd_bun, upd_fam, ptb_listA, factsP_listA, Nat.mul_one, ptb_datasA, factsP_datasA, ptb_txA, factsP_txA, itCells, ptb_fam, factsP_fam, ptb_learnA, factsP_learnA] at v2
        go_upto_region 1 with fail
        first | apply Mem.atCall | apply Mem.atCode | apply Mem.atList
        case h => repeat' (first | (with_reducible exact O) | (with_reducible apply Mem.drew) | (with_reducible apply Mem.drewN) | (with_reducible apply Mem.ext) | (with_reducible apply Mem.alloc) | (with_reducible apply Mem.setCell) | (simp only [ptb, ptb_upd, foots_cons, List.mem_cons, World.size_alloc, size_ext, World.size_setCell, true_or, or_true, eq_self_iff_true, ptb_mapA, ptb_bun, ptb_listA, ptb_datasA, ptb_txA, ptb_fam, ptb_learnA]))
        case' k =>
          intro w1 O'
          (try clear O)
          have O := O'
          clear O'
          (first | simp only [sel, rst, List.cons_append, List.nil_append, World.size_alloc, size_ext, World.size_setCell, size_setMap, World.size_drew, size_drewN, upd, List.set_cons_zero, List.set_cons_succ, if_true, if_false, reduceIte, not_false_eq_true, ne_lt0, ne_lt1, ne_lt2, ne_lt3, ne_lt4, upd_listA, upd_datasA, upd_txA, upd_mapA, upd_bun, upd_fam, cs] at O | simp only [sel, rst, List.cons_append, List.nil_append, World.size_alloc, size_ext, World.size_setCell, size_setMap, World.size_drew, size_drewN, upd, List.set_cons_zero, List.set_cons_succ, if_true, if_false, reduceIte, not_false_eq_true, ne_lt0, ne_lt1, ne_lt2, ne_lt3, ne_lt4, upd_listA, upd_datasA, upd_txA, upd_mapA, upd_bun, upd_fam] at O | skip)
          (try clear cs)
          (try clear v1)
          (try clear v2)
          (try clear v3)
        generalize w.heap.size = bb at O ⊢
        have cs := O.facts
        try simp only [factsP, cellsP, roomP, foots_cons, foots_nil, foots_append, foot_pt, ptb, ptb_mapA, foot_mapA, factsP_mapA, foot_bun, List.append_nil, List.nil_append, List.cons_append, List.nodup_cons, List.nodup_nil, List.mem_cons, List.not_mem_nil, List.mem_singleton, List.forall_mem_cons, not_or, not_false_eq_true, and_true, true_and, or_false, false_or, forall_eq_or_imp, forall_eq, implies_true, Nat.zero_add, Nat.reduceAdd, and_assoc, ptb_mapA, factsP_bun, ptb_bun, upd_listA, upd_datasA, upd_txA, upd_mapA, upd_bun, upd_fam, ptb_listA, factsP_listA, Nat.mul_one, ptb_datasA, factsP_datasA, ptb_txA, factsP_txA, itCells, ptb_fam, factsP_fam, ptb_learnA, factsP_learnA] at cs
        try have v1 := (LKE.out _ (O.map (κ := u64K) (vv := ptrV) (by simp)))
        try simp only [cellsQ, roomP, and_assoc, and_true, true_and, Nat.add_zero, Nat.zero_add, Nat.reduceAdd, factsP, cellsP, roomP, foots_cons, foots_nil, foots_append, foot_pt, ptb, ptb_mapA, foot_mapA, factsP_mapA, foot_bun, List.append_nil, List.nil_append, List.cons_append, List.nodup_cons, List.nodup_nil, List.mem_cons, List.not_mem_nil, List.mem_singleton, List.forall_mem_cons, not_or, not_false_eq_true, and_true, true_and, or_false, false_or, forall_eq_or_imp, forall_eq, implies_true, Nat.zero_add, Nat.reduceAdd, and_assoc, ptb_mapA, factsP_bun, ptb_bun, upd_listA, upd_datasA, upd_txA, upd_mapA, upd_bun, upd_fam, ptb_listA, factsP_listA, Nat.mul_one, ptb_datasA, factsP_datasA, ptb_txA, factsP_txA, itCells, ptb_fam, factsP_fam, ptb_learnA, factsP_learnA] at v1
        try have v2 := (LKL.out _ (O.map (κ := instKey) (vv := ptrV) (by simp)))
        try simp only [cellsQ, roomP, and_assoc, and_true, true_and, Nat.add_zero, Nat.zero_add, Nat.reduceAdd, factsP, cellsP, roomP, foots_cons, foots_nil, foots_append, foot_pt, ptb, ptb_mapA, foot_mapA, factsP_mapA, foot_bun, List.append_nil, List.nil_append, List.cons_append, List.nodup_cons, List.nodup_nil, List.mem_cons, List.not_mem_nil, List.mem_singleton, List.forall_mem_cons, not_or, not_false_eq_true, and_true, true_and, or_false, false_or, forall_eq_or_imp, forall_eq, implies_true, Nat.zero_add, Nat.reduceAdd, and_assoc, ptb_mapA, factsP_bun, ptb_bun, upd_listA, upd_datasA, upd_txA, upd_mapA, upd_bun, upd_fam, ptb_listA, factsP_listA, Nat.mul_one, ptb_datasA, factsP_datasA, ptb_txA, factsP_txA, itCells, ptb_fam, factsP_fam, ptb_learnA, factsP_learnA] at v2
        go_wp2_with fail
        first | apply Mem.atCall | apply Mem.atCode | apply Mem.atList
        case h => repeat' (first | (with_reducible exact O) | (with_reducible apply Mem.drew) | (with_reducible apply Mem.drewN) | (with_reducible apply Mem.ext) | (with_reducible apply Mem.alloc) | (with_reducible apply Mem.setCell) | (simp only [ptb, ptb_upd, foots_cons, List.mem_cons, World.size_alloc, size_ext, World.size_setCell, true_or, or_true, eq_self_iff_true, ptb_mapA, ptb_bun, ptb_listA, ptb_datasA, ptb_txA, ptb_fam, ptb_learnA]))
        case' k =>
          intro w2 O'
          (try clear O)
          have O := O'
          clear O'
          (first | simp only [sel, rst, List.cons_append, List.nil_append, World.size_alloc, size_ext, World.size_setCell, size_setMap, World.size_drew, size_drewN, upd, List.set_cons_zero, List.set_cons_succ, if_true, if_false, reduceIte, not_false_eq_true, ne_lt0, ne_lt1, ne_lt2, ne_lt3, ne_lt4, upd_listA, upd_datasA, upd_txA, upd_mapA, upd_bun, upd_fam, cs] at O | simp only [sel, rst, List.cons_append, List.nil_append, World.size_alloc, size_ext, World.size_setCell, size_setMap, World.size_drew, size_drewN, upd, List.set_cons_zero, List.set_cons_succ, if_true, if_false, reduceIte, not_false_eq_true, ne_lt0, ne_lt1, ne_lt2, ne_lt3, ne_lt4, upd_listA, upd_datasA, upd_txA, upd_mapA, upd_bun, upd_fam] at O | skip)
          (try clear cs)
          (try clear v1)
          (try clear v2)
          (try clear v3)
        refine (CRD.out _).mono ?_
        rintro e w3 ⟨rfl, o⟩
        replace O := O.callp [] o
        clear o
        simp only [put, List.cons_append, List.nil_append] at O
        have cs := O.facts
        try simp only [factsP, cellsP, roomP, foots_cons, foots_nil, foots_append, foot_pt, ptb, ptb_mapA, foot_mapA, factsP_mapA, foot_bun, List.append_nil, List.nil_append, List.cons_append, List.nodup_cons, List.nodup_nil, List.mem_cons, List.not_mem_nil, List.mem_singleton, List.forall_mem_cons, not_or, not_false_eq_true, and_true, true_and, or_false, false_or, forall_eq_or_imp, forall_eq, implies_true, Nat.zero_add, Nat.reduceAdd, and_assoc, ptb_mapA, factsP_bun, ptb_bun, upd_listA, upd_datasA, upd_txA, upd_mapA, upd_bun, upd_fam, ptb_listA, factsP_listA, Nat.mul_one, ptb_datasA, factsP_datasA, ptb_txA, factsP_txA, itCells, ptb_fam, factsP_fam, ptb_learnA, factsP_learnA] at cs
        try have v1 := (LKE.out _ (O.map (κ := u64K) (vv := ptrV) (by simp)))
        try simp only [cellsQ, roomP, and_assoc, and_true, true_and, Nat.add_zero, Nat.zero_add, Nat.reduceAdd, factsP, cellsP, roomP, foots_cons, foots_nil, foots_append, foot_pt, ptb, ptb_mapA, foot_mapA, factsP_mapA, foot_bun, List.append_nil, List.nil_append, List.cons_append, List.nodup_cons, List.nodup_nil, List.mem_cons, List.not_mem_nil, List.mem_singleton, List.forall_mem_cons, not_or, not_false_eq_true, and_true, true_and, or_false, false_or, forall_eq_or_imp, forall_eq, implies_true, Nat.zero_add, Nat.reduceAdd, and_assoc, ptb_mapA, factsP_bun, ptb_bun, upd_listA, upd_datasA, upd_txA, upd_mapA, upd_bun, upd_fam, ptb_listA, factsP_listA, Nat.mul_one, ptb_datasA, factsP_datasA, ptb_txA, factsP_txA, itCells, ptb_fam, factsP_fam, ptb_learnA, factsP_learnA] at v1
        try have v2 := (LKL.out _ (O.map (κ := instKey) (vv := ptrV) (by simp)))
        try simp only [cellsQ, roomP, and_assoc, and_true, true_and, Nat.add_zero, Nat.zero_add, Nat.reduceAdd, factsP, cellsP, roomP, foots_cons, foots_nil, foots_append, foot_pt, ptb, ptb_mapA, foot_mapA, factsP_mapA, foot_bun, List.append_nil, List.nil_append, List.cons_append, List.nodup_cons, List.nodup_nil, List.mem_cons, List.not_mem_nil, List.mem_singleton, List.forall_mem_cons, not_or, not_false_eq_true, and_true, true_and, or_false, false_or, forall_eq_or_imp, forall_eq, implies_true, Nat.zero_add, Nat.reduceAdd, and_assoc, ptb_mapA, factsP_bun, ptb_bun, upd_listA, upd_datasA, upd_txA, upd_mapA, upd_bun, upd_fam, ptb_listA, factsP_listA, Nat.mul_one, ptb_datasA, factsP_datasA, ptb_txA, factsP_txA, itCells, ptb_fam, factsP_fam, ptb_learnA, factsP_learnA] at v2
        go_wp2_with fail
        go_ret2
        refine ⟨rfl, E.ls, rfl, CLOSE.out { E with ls := E.ls, d := E.d } rfl rfl _ ?_⟩
        simp only [EntM.parts, EntM.cells, List.cons_append, List.nil_append]
        exact O.sel [false, true, true, true, true, true, true, true, true]
      · have hf2 : decide (f < 0) = false := by simpa using hf1
        have hf3 : decide (3 ≤ f) = true := by simp; omega
        clear hf0 hf1
        go_enter Try.func13, Try.ntmps13
        have cs := O.facts
        try simp only [factsP, cellsP, roomP, foots_cons, foots_nil, foots_append, foot_pt, ptb, ptb_mapA, foot_mapA, factsP_mapA, foot_bun, List.append_nil, List.nil_append, List.cons_append, List.nodup_cons, List.nodup_nil, List.mem_cons, List.not_mem_nil, List.mem_singleton, List.forall_mem_cons, not_or, not_false_eq_true, and_true, true_and, or_false, false_or, forall_eq_or_imp, forall_eq, implies_true, Nat.zero_add, Nat.reduceAdd, and_assoc, ptb_mapA, factsP_bun, ptb_bun, upd_listA, upd_datasA, upd_txA, upd_mapA, upd_bun, upd_fam, ptb_listA, factsP_listA, Nat.mul_one, ptb_datasA, factsP_datasA, ptb_txA, factsP_txA, itCells, ptb_fam, factsP_fam, ptb_learnA, factsP_learnA] at cs
        try have v1 := (LKE.out _ (O.map (κ := u64K) (vv := ptrV) (by simp)))
        try simp only [cellsQ, roomP, and_assoc, and_true, true_and, Nat.add_zero, Nat.zero_add, Nat.reduceAdd, factsP, cellsP, roomP, foots_cons, foots_nil, foots_append, foot_pt, ptb, ptb_mapA, foot_mapA, factsP_mapA, foot_bun, List.append_nil, List.nil_append, List.cons_append, List.nodup_cons, List.nodup_nil, List.mem_cons, List.not_mem_nil, List.mem_singleton, List.forall_mem_cons, not_or, not_false_eq_true, and_true, true_and, or_false, false_or, forall_eq_or_imp, forall_eq, implies_true, Nat.zero_add, Nat.reduceAdd, and_assoc, ptb_mapA, factsP_bun, ptb_bun, upd_listA, upd_datasA, upd_txA, upd_mapA, upd_bun, upd_fam, ptb_listA, factsP_listA, Nat.mul_one, ptb_datasA, factsP_datasA, ptb_txA, factsP_txA, itCells, ptb_fam, factsP_fam, ptb_learnA, factsP_learnA] at v1
        try have v2 := (LKL.out _ (O.map (κ := instKey) (vv := ptrV) (by simp)))
        try simp only [cellsQ, roomP, and_assoc, and_true, true_and, Nat.add_zero, Nat.zero_add, Nat.reduceAdd, factsP, cellsP, roomP, foots_cons, foots_nil, foots_append, foot_pt, ptb, ptb_mapA, foot_mapA, factsP_mapA, foot_bun, List.append_nil, List.nil_append, List.cons_append, List.nodup_cons, List.nodup_nil, List.mem_cons, List.not_mem_nil, List.mem_singleton, List.forall_mem_cons, not_or, not_false_eq_true, and_true, true_and, or_false, false_or, forall_eq_or_imp, forall_eq, implies_true, Nat.zero_add, Nat.reduceAdd, and_assoc, ptb_mapA, factsP_bun, ptb_bun, upd_listA, upd_datasA, upd_txA, upd_mapA, upd_bun, upd_fam, ptb_listA, factsP_listA, Nat.mul_one, ptb_datasA, factsP_datasA, ptb_txA, factsP_txA, itCells, ptb_fam, factsP_fam, ptb_learnA, factsP_learnA] at v2
        go_upto_region 1 with fail
        first | apply Mem.atCall | apply Mem.atCode | apply Mem.atList
        case h => repeat' (first | (with_reducible exact O) | (with_reducible apply Mem.drew) | (with_reducible apply Mem.drewN) | (with_reducible apply Mem.ext) | (with_reducible apply Mem.alloc) | (with_reducible apply Mem.setCell) | (simp only [ptb, ptb_upd, foots_cons, List.mem_cons, World.size_alloc, size_ext, World.size_setCell, true_or, or_true, eq_self_iff_true, ptb_mapA, ptb_bun, ptb_listA, ptb_datasA, ptb_txA, ptb_fam, ptb_learnA]))
        case' k =>
          intro w1 O'
          (try clear O)
          have O := O'
          clear O'
          (first | simp only [sel, rst, List.cons_append, List.nil_append, World.size_alloc, size_ext, World.size_setCell, size_setMap, World.size_drew, size_drewN, upd, List.set_cons_zero, List.set_cons_succ, if_true, if_false, reduceIte, not_false_eq_true, ne_lt0, ne_lt1, ne_lt2, ne_lt3, ne_lt4, upd_listA, upd_datasA, upd_txA, upd_mapA, upd_bun, upd_fam, cs] at O | simp only [sel, rst, List.cons_append, List.nil_append, World.size_alloc, size_ext, World.size_setCell, size_setMap, World.size_drew, size_drewN, upd, List.set_cons_zero, List.set_cons_succ, if_true, if_false, reduceIte, not_false_eq_true, ne_lt0, ne_lt1, ne_lt2, ne_lt3, ne_lt4, upd_listA, upd_datasA, upd_txA, upd_mapA, upd_bun, upd_fam] at O | skip)
          (try clear cs)
          (try clear v1)
          (try clear v2)
          (try clear v3)
        generalize w.heap.size = bb at O ⊢
        have cs := O.facts
        try simp only [factsP, cellsP, roomP, foots_cons, foots_nil, foots_append, foot_pt, ptb, ptb_mapA, foot_mapA, factsP_mapA, foot_bun, List.append_nil, List.nil_append, List.cons_append, List.nodup_cons, List.nodup_nil, List.mem_cons, List.not_mem_nil, List.mem_singleton, List.forall_mem_cons, not_or, not_false_eq_true, and_true, true_and, or_false, false_or, forall_eq_or_imp, forall_eq, implies_true, Nat.zero_add, Nat.reduceAdd, and_assoc, ptb_mapA, factsP_bun, ptb_bun, upd_listA, upd_datasA, upd_txA, upd_mapA, upd_bun, upd_fam, ptb_listA, factsP_listA, Nat.mul_one, ptb_datasA, factsP_datasA, ptb_txA, factsP_txA, itCells, ptb_fam, factsP_fam, ptb_learnA, factsP_learnA] at cs
        try have v1 := (LKE.out _ (O.map (κ := u64K) (vv := ptrV) (by simp)))
        try simp only [cellsQ, roomP, and_assoc, and_true, true_and, Nat.add_zero, Nat.zero_add, Nat.reduceAdd, factsP, cellsP, roomP, foots_cons, foots_nil, foots_append, foot_pt, ptb, ptb_mapA, foot_mapA, factsP_mapA, foot_bun, List.append_nil, List.nil_append, List.cons_append, List.nodup_cons, List.nodup_nil, List.mem_cons, List.not_mem_nil, List.mem_singleton, List.forall_mem_cons, not_or, not_false_eq_true, and_true, true_and, or_false, false_or, forall_eq_or_imp, forall_eq, implies_true, Nat.zero_add, Nat.reduceAdd, and_assoc, ptb_mapA, factsP_bun, ptb_bun, upd_listA, upd_datasA, upd_txA, upd_mapA, upd_bun, upd_fam, ptb_listA, factsP_listA, Nat.mul_one, ptb_datasA, factsP_datasA, ptb_txA, factsP_txA, itCells, ptb_fam, factsP_fam, ptb_learnA, factsP_learnA] at v1
        try have v2 := (LKL.out _ (O.map (κ := instKey) (vv := ptrV) (by simp)))
        try simp only [cellsQ, roomP, and_assoc, and_true, true_and, Nat.add_zero, Nat.zero_add, Nat.reduceAdd, factsP, cellsP, roomP, foots_cons, foots_nil, foots_append, foot_pt, ptb, ptb_mapA, foot_mapA, factsP_mapA, foot_bun, List.append_nil, List.nil_append, List.cons_append, List.nodup_cons, List.nodup_nil, List.mem_cons, List.not_mem_nil, List.mem_singleton, List.forall_mem_cons, not_or, not_false_eq_true, and_true, true_and, or_false, false_or, forall_eq_or_imp, forall_eq, implies_true, Nat.zero_add, Nat.reduceAdd, and_assoc, ptb_mapA, factsP_bun, ptb_bun, upd_listA, upd_datasA, upd_txA, upd_mapA, upd_bun, upd_fam, ptb_listA, factsP_listA, Nat.mul_one, ptb_datasA, factsP_datasA, ptb_txA, factsP_txA, itCells, ptb_fam, factsP_fam, ptb_learnA, factsP_learnA] at v2
        go_wp2_with fail
        first | apply Mem.atCall | apply Mem.atCode | apply Mem.atList
        case h => repeat' (first | (with_reducible exact O) | (with_reducible apply Mem.drew) | (with_reducible apply Mem.drewN) | (with_reducible apply Mem.ext) | (with_reducible apply Mem.alloc) | (with_reducible apply Mem.setCell) | (simp only [ptb, ptb_upd, foots_cons, List.mem_cons, World.size_alloc, size_ext, World.size_setCell, true_or, or_true, eq_self_iff_true, ptb_mapA, ptb_bun, ptb_listA, ptb_datasA, ptb_txA, ptb_fam, ptb_learnA]))
        case' k =>
          intro w2 O'
          (try clear O)
          have O := O'
          clear O'
          (first | simp only [sel, rst, List.cons_append, List.nil_append, World.size_alloc, size_ext, World.size_setCell, size_setMap, World.size_drew, size_drewN, upd, List.set_cons_zero, List.set_cons_succ, if_true, if_false, reduceIte, not_false_eq_true, ne_lt0, ne_lt1, ne_lt2, ne_lt3, ne_lt4, upd_listA, upd_datasA, upd_txA, upd_mapA, upd_bun, upd_fam, cs] at O | simp only [sel, rst, List.cons_append, List.nil_append, World.size_alloc, size_ext, World.size_setCell, size_setMap, World.size_drew, size_drewN, upd, List.set_cons_zero, List.set_cons_succ, if_true, if_false, reduceIte, not_false_eq_true, ne_lt0, ne_lt1, ne_lt2, ne_lt3, ne_lt4, upd_listA, upd_datasA, upd_txA, upd_mapA, upd_bun, upd_fam] at O | skip)
          (try clear cs)
          (try clear v1)
          (try clear v2)
          (try clear v3)
        refine (CRD.out _).mono ?_
        rintro e w3 ⟨rfl, o⟩
        replace O := O.callp [] o
        clear o
        simp only [put, List.cons_append, List.nil_append] at O
        have cs := O.facts
        try simp only [factsP, cellsP, roomP, foots_cons, foots_nil, foots_append, foot_pt, ptb, ptb_mapA, foot_mapA, factsP_mapA, foot_bun, List.append_nil, List.nil_append, List.cons_append, List.nodup_cons, List.nodup_nil, List.mem_cons, List.not_mem_nil, List.mem_singleton, List.forall_mem_cons, not_or, not_false_eq_true, and_true, true_and, or_false, false_or, forall_eq_or_imp, forall_eq, implies_true, Nat.zero_add, Nat.reduceAdd, and_assoc, ptb_mapA, factsP_bun, ptb_bun, upd_listA, upd_datasA, upd_txA, upd_mapA, upd_bun, upd_fam, ptb_listA, factsP_listA, Nat.mul_one, ptb_datasA, factsP_datasA, ptb_txA, factsP_txA, itCells, ptb_fam, factsP_fam, ptb_learnA, factsP_learnA] at cs
        try have v1 := (LKE.out _ (O.map (κ := u64K) (vv := ptrV) (by simp)))
        try simp only [cellsQ, roomP, and_assoc, and_true, true_and, Nat.add_zero, Nat.zero_add, Nat.reduceAdd, factsP, cellsP, roomP, foots_cons, foots_nil, foots_append, foot_pt, ptb, ptb_mapA, foot_mapA, factsP_mapA, foot_bun, List.append_nil, List.nil_append, List.cons_append, List.nodup_cons, List.nodup_nil, List.mem_cons, List.not_mem_nil, List.mem_singleton, List.forall_mem_cons, not_or, not_false_eq_true, and_true, true_and, or_false, false_or, forall_eq_or_imp, forall_eq, implies_true, Nat.zero_add, Nat.reduceAdd, and_assoc, ptb_mapA, factsP_bun, ptb_bun, upd_listA, upd_datasA, upd_txA, upd_mapA, upd_bun, upd_fam, ptb_listA, factsP_listA, Nat.mul_one, ptb_datasA, factsP_datasA, ptb_txA, factsP_txA, itCells, ptb_fam, factsP_fam, ptb_learnA, factsP_learnA] at v1
        try have v2 := (LKL.out _ (O.map (κ := instKey) (vv := ptrV) (by simp)))
        try simp only [cellsQ, roomP, and_assoc, and_true, true_and, Nat.add_zero, Nat.zero_add, Nat.reduceAdd, factsP, cellsP, roomP, foots_cons, foots_nil, foots_append, foot_pt, ptb, ptb_mapA, foot_mapA, factsP_mapA, foot_bun, List.append_nil, List.nil_append, List.cons_append, List.nodup_cons, List.nodup_nil, List.mem_cons, List.not_mem_nil, List.mem_singleton, List.forall_mem_cons, not_or, not_false_eq_true, and_true, true_and, or_false, false_or, forall_eq_or_imp, forall_eq, implies_true, Nat.zero_add, Nat.reduceAdd, and_assoc, ptb_mapA, factsP_bun, ptb_bun, upd_listA, upd_datasA, upd_txA, upd_mapA, upd_bun, upd_fam, ptb_listA, factsP_listA, Nat.mul_one, ptb_datasA, factsP_datasA, ptb_txA, factsP_txA, itCells, ptb_fam, factsP_fam, ptb_learnA, factsP_learnA] at v2
        go_wp2_with fail
        go_ret2
        refine ⟨rfl, E.ls, rfl, CLOSE.out { E with ls := E.ls, d := E.d } rfl rfl _ ?_⟩
        simp only [EntM.parts, EntM.cells, List.cons_append, List.nil_append]
        exact O.sel [false, true, true, true, true, true, true, true, true]
    rw [if_neg hf0] at hr
    have hf2 : decide (f < 0) = false := by simp; omega
    have hf3 : decide (3 ≤ f) = false := by simp; omega
    clear hf0
    obtain ⟨a, ha⟩ : ∃ a, a = accepted11 x.l f ⟨br, bn⟩ v := ⟨_, rfl⟩
    rw [← ha] at hr CA
    have hptr : (mset E.ls ⟨E.id, bucket, replica, 0⟩ ⟨x.lb, x.mb, a.2.2⟩).map lnPtr = E.ls.map lnPtr := ptr_mset _ _ _ x HX.out rfl
    have hpln : plnOf (mset E.ls ⟨E.id, bucket, replica, 0⟩ ⟨x.lb, x.mb, a.2.2⟩) = mset (plnOf E.ls) ⟨E.id, bucket, replica, 0⟩ a.2.2 := pln_mset _ _ _
    rw [← hpln] at hr
    have hgood : ({ E with ls := mset E.ls ⟨E.id, bucket, replica, 0⟩ ⟨x.lb, x.mb, a.2.2⟩ } : EntM).good := by
      obtain ⟨q1, q2, q3, q4, q5, q6, q7⟩ := HG.out
      refine ⟨q1, q2, q3, q4, q5, q6, fun u hu => ?_⟩
      simp only at hu ⊢
      rw [mget_mset]
      split
      · rfl
      · exact q7 u hu
    have HPTR := Lib.hid hptr
    have HGOOD := Lib.hid hgood
    clear hptr hpln hgood ha
    generalize mset E.ls ⟨E.id, bucket, replica, 0⟩ ⟨x.lb, x.mb, a.2.2⟩ = ls2 at *
    obtain ⟨av, ac, al⟩ := a
    simp only at hr CA
    skip
    by_cases hc : ac = false ∨ E.d ≠ 0
    · rw [if_pos hc] at hr
      subst hr
      simp only [Ballot.val] at CA
      go_enter Try.func13, Try.ntmps13
      have cs := O.facts
      try simp only [factsP, cellsP, roomP, foots_cons, foots_nil, foots_append, foot_pt, ptb, ptb_mapA, foot_mapA, factsP_mapA, foot_bun, List.append_nil, List.nil_append, List.cons_append, List.nodup_cons, List.nodup_nil, List.mem_cons, List.not_mem_nil, List.mem_singleton, List.forall_mem_cons, not_or, not_false_eq_true, and_true, true_and, or_false, false_or, forall_eq_or_imp, forall_eq, implies_true, Nat.zero_add, Nat.reduceAdd, and_assoc, ptb_mapA, factsP_bun, ptb_bun, upd_listA, upd_datasA, upd_txA, upd_mapA, upd_bun, upd_fam, ptb_listA, factsP_listA, Nat.mul_one, ptb_datasA, factsP_datasA, ptb_txA, factsP_txA, itCells, ptb_fam, factsP_fam, ptb_learnA, factsP_learnA] at cs
      try have v1 := (LKE.out _ (O.map (κ := u64K) (vv := ptrV) (by simp)))
      try simp only [cellsQ, roomP, and_assoc, and_true, true_and, Nat.add_zero, Nat.zero_add, Nat.reduceAdd, factsP, cellsP, roomP, foots_cons, foots_nil, foots_append, foot_pt, ptb, ptb_mapA, foot_mapA, factsP_mapA, foot_bun, List.append_nil, List.nil_append, List.cons_append, List.nodup_cons, List.nodup_nil, List.mem_cons, List.not_mem_nil, List.mem_singleton, List.forall_mem_cons, not_or, not_false_eq_true, and_true, true_and, or_false, false_or, forall_eq_or_imp, forall_eq, implies_true, Nat.zero_add, Nat.reduceAdd, and_assoc, ptb_mapA, factsP_bun, ptb_bun, upd_listA, upd_datasA, upd_txA, upd_mapA, upd_bun, upd_fam, ptb_listA, factsP_listA, Nat.mul_one, ptb_datasA, factsP_datasA, ptb_txA, factsP_txA, itCells, ptb_fam, factsP_fam, ptb_learnA, factsP_learnA] at v1
      try have v2 := (LKL.out _ (O.map (κ := instKey) (vv := ptrV) (by simp)))
      try simp only [cellsQ, roomP, and_assoc, and_true, true_and, Nat.add_zero, Nat.zero_add, Nat.reduceAdd, factsP, cellsP, roomP, foots_cons, foots_nil, foots_append, foot_pt, ptb, ptb_mapA, foot_mapA, factsP_mapA, foot_bun, List.append_nil, List.nil_append, List.cons_append, List.nodup_cons, List.nodup_nil, List.mem_cons, List.not_mem_nil, List.mem_singleton, List.forall_mem_cons, not_or, not_false_eq_true, and_true, true_and, or_false, false_or, forall_eq_or_imp, forall_eq, implies_true, Nat.zero_add, Nat.reduceAdd, and_assoc, ptb_mapA, factsP_bun, ptb_bun, upd_listA, upd_datasA, upd_txA, upd_mapA, upd_bun, upd_fam, ptb_listA, factsP_listA, Nat.mul_one, ptb_datasA, factsP_datasA, ptb_txA, factsP_txA, itCells, ptb_fam, factsP_fam, ptb_learnA, factsP_learnA] at v2
      go_upto_region 1 with fail
      first | apply Mem.atCall | apply Mem.atCode | apply Mem.atList
      case h => repeat' (first | (with_reducible exact O) | (with_reducible apply Mem.drew) | (with_reducible apply Mem.drewN) | (with_reducible apply Mem.ext) | (with_reducible apply Mem.alloc) | (with_reducible apply Mem.setCell) | (simp only [ptb, ptb_upd, foots_cons, List.mem_cons, World.size_alloc, size_ext, World.size_setCell, true_or, or_true, eq_self_iff_true, ptb_mapA, ptb_bun, ptb_listA, ptb_datasA, ptb_txA, ptb_fam, ptb_learnA]))
      case' k =>
        intro w1 O'
        (try clear O)
        have O := O'
        clear O'
        (first | simp only [sel, rst, List.cons_append, List.nil_append, World.size_alloc, size_ext, World.size_setCell, size_setMap, World.size_drew, size_drewN, upd, List.set_cons_zero, List.set_cons_succ, if_true, if_false, reduceIte, not_false_eq_true, ne_lt0, ne_lt1, ne_lt2, ne_lt3, ne_lt4, upd_listA, upd_datasA, upd_txA, upd_mapA, upd_bun, upd_fam, cs] at O | simp only [sel, rst, List.cons_append, List.nil_append, World.size_alloc, size_ext, World.size_setCell, size_setMap, World.size_drew, size_drewN, upd, List.set_cons_zero, List.set_cons_succ, if_true, if_false, reduceIte, not_false_eq_true, ne_lt0, ne_lt1, ne_lt2, ne_lt3, ne_lt4, upd_listA, upd_datasA, upd_txA, upd_mapA, upd_bun, upd_fam] at O | skip)
        (try clear cs)
        (try clear v1)
        (try clear v2)
        (try clear v3)
      generalize w.heap.size = bb at O ⊢
      have cs := O.facts
      try simp only [factsP, cellsP, roomP, foots_cons, foots_nil, foots_append, foot_pt, ptb, ptb_mapA, foot_mapA, factsP_mapA, foot_bun, List.append_nil, List.nil_append, List.cons_append, List.nodup_cons, List.nodup_nil, List.mem_cons, List.not_mem_nil, List.mem_singleton, List.forall_mem_cons, not_or, not_false_eq_true, and_true, true_and, or_false, false_or, forall_eq_or_imp, forall_eq, implies_true, Nat.zero_add, Nat.reduceAdd, and_assoc, ptb_mapA, factsP_bun, ptb_bun, upd_listA, upd_datasA, upd_txA, upd_mapA, upd_bun, upd_fam, ptb_listA, factsP_listA, Nat.mul_one, ptb_datasA, factsP_datasA, ptb_txA, factsP_txA, itCells, ptb_fam, factsP_fam, ptb_learnA, factsP_learnA] at cs
      try have v1 := (LKE.out _ (O.map (κ := u64K) (vv := ptrV) (by simp)))
      try simp only [cellsQ, roomP, and_assoc, and_true, true_and, Nat.add_zero, Nat.zero_add, Nat.reduceAdd, factsP, cellsP, roomP, foots_cons, foots_nil, foots_append, foot_pt, ptb, ptb_mapA, foot_mapA, factsP_mapA, foot_bun, List.append_nil, List.nil_append, List.cons_append, List.nodup_cons, List.nodup_nil, List.mem_cons, List.not_mem_nil, List.mem_singleton, List.forall_mem_cons, not_or, not_false_eq_true, and_true, true_and, or_false, false_or, forall_eq_or_imp, forall_eq, implies_true, Nat.zero_add, Nat.reduceAdd, and_assoc, ptb_mapA, factsP_bun, ptb_bun, upd_listA, upd_datasA, upd_txA, upd_mapA, upd_bun, upd_fam, ptb_listA, factsP_listA, Nat.mul_one, ptb_datasA, factsP_datasA, ptb_txA, factsP_txA, itCells, ptb_fam, factsP_fam, ptb_learnA, factsP_learnA] at v1
      try have v2 := (LKL.out _ (O.map (κ := instKey) (vv := ptrV) (by simp)))
      try simp only [cellsQ, roomP, and_assoc, and_true, true_and, Nat.add_zero, Nat.zero_add, Nat.reduceAdd, factsP, cellsP, roomP, foots_cons, foots_nil, foots_append, foot_pt, ptb, ptb_mapA, foot_mapA, factsP_mapA, foot_bun, List.append_nil, List.nil_append, List.cons_append, List.nodup_cons, List.nodup_nil, List.mem_cons, List.not_mem_nil, List.mem_singleton, List.forall_mem_cons, not_or, not_false_eq_true, and_true, true_and, or_false, false_or, forall_eq_or_imp, forall_eq, implies_true, Nat.zero_add, Nat.reduceAdd, and_assoc, ptb_mapA, factsP_bun, ptb_bun, upd_listA, upd_datasA, upd_txA, upd_mapA, upd_bun, upd_fam, ptb_listA, factsP_listA, Nat.mul_one, ptb_datasA, factsP_datasA, ptb_txA, factsP_txA, itCells, ptb_fam, factsP_fam, ptb_learnA, factsP_learnA] at v2
      go_wp2_with fail
      first | apply Mem.atCall | apply Mem.atCode | apply Mem.atList
      case h => repeat' (first | (with_reducible exact O) | (with_reducible apply Mem.drew) | (with_reducible apply Mem.drewN) | (with_reducible apply Mem.ext) | (with_reducible apply Mem.alloc) | (with_reducible apply Mem.setCell) | (simp only [ptb, ptb_upd, foots_cons, List.mem_cons, World.size_alloc, size_ext, World.size_setCell, true_or, or_true, eq_self_iff_true, ptb_mapA, ptb_bun, ptb_listA, ptb_datasA, ptb_txA, ptb_fam, ptb_learnA]))
      case' k =>
        intro w2 O'
        (try clear O)
        have O := O'
        clear O'
        (first | simp only [sel, rst, List.cons_append, List.nil_append, World.size_alloc, size_ext, World.size_setCell, size_setMap, World.size_drew, size_drewN, upd, List.set_cons_zero, List.set_cons_succ, if_true, if_false, reduceIte, not_false_eq_true, ne_lt0, ne_lt1, ne_lt2, ne_lt3, ne_lt4, upd_listA, upd_datasA, upd_txA, upd_mapA, upd_bun, upd_fam, cs] at O | simp only [sel, rst, List.cons_append, List.nil_append, World.size_alloc, size_ext, World.size_setCell, size_setMap, World.size_drew, size_drewN, upd, List.set_cons_zero, List.set_cons_succ, if_true, if_false, reduceIte, not_false_eq_true, ne_lt0, ne_lt1, ne_lt2, ne_lt3, ne_lt4, upd_listA, upd_datasA, upd_txA, upd_mapA, upd_bun, upd_fam] at O | skip)
        (try clear cs)
        (try clear v1)
        (try clear v2)
        (try clear v3)
      refine (CRD.out _).mono ?_
      rintro e w3 ⟨rfl, o⟩
      replace O := O.callp [] o
      clear o
      simp only [put, List.cons_append, List.nil_append] at O
      have cs := O.facts
      try simp only [factsP, cellsP, roomP, foots_cons, foots_nil, foots_append, foot_pt, ptb, ptb_mapA, foot_mapA, factsP_mapA, foot_bun, List.append_nil, List.nil_append, List.cons_append, List.nodup_cons, List.nodup_nil, List.mem_cons, List.not_mem_nil, List.mem_singleton, List.forall_mem_cons, not_or, not_false_eq_true, and_true, true_and, or_false, false_or, forall_eq_or_imp, forall_eq, implies_true, Nat.zero_add, Nat.reduceAdd, and_assoc, ptb_mapA, factsP_bun, ptb_bun, upd_listA, upd_datasA, upd_txA, upd_mapA, upd_bun, upd_fam, ptb_listA, factsP_listA, Nat.mul_one, ptb_datasA, factsP_datasA, ptb_txA, factsP_txA, itCells, ptb_fam, factsP_fam, ptb_learnA, factsP_learnA] at cs
      try have v1 := (LKE.out _ (O.map (κ := u64K) (vv := ptrV) (by simp)))
      try simp only [cellsQ, roomP, and_assoc, and_true, true_and, Nat.add_zero, Nat.zero_add, Nat.reduceAdd, factsP, cellsP, roomP, foots_cons, foots_nil, foots_append, foot_pt, ptb, ptb_mapA, foot_mapA, factsP_mapA, foot_bun, List.append_nil, List.nil_append, List.cons_append, List.nodup_cons, List.nodup_nil, List.mem_cons, List.not_mem_nil, List.mem_singleton, List.forall_mem_cons, not_or, not_false_eq_true, and_true, true_and, or_false, false_or, forall_eq_or_imp, forall_eq, implies_true, Nat.zero_add, Nat.reduceAdd, and_assoc, ptb_mapA, factsP_bun, ptb_bun, upd_listA, upd_datasA, upd_txA, upd_mapA, upd_bun, upd_fam, ptb_listA, factsP_listA, Nat.mul_one, ptb_datasA, factsP_datasA, ptb_txA, factsP_txA, itCells, ptb_fam, factsP_fam, ptb_learnA, factsP_learnA] at v1
      try have v2 := (LKL.out _ (O.map (κ := instKey) (vv := ptrV) (by simp)))
      try simp only [cellsQ, roomP, and_assoc, and_true, true_and, Nat.add_zero, Nat.zero_add, Nat.reduceAdd, factsP, cellsP, roomP, foots_cons, foots_nil, foots_append, foot_pt, ptb, ptb_mapA, foot_mapA, factsP_mapA, foot_bun, List.append_nil, List.nil_append, List.cons_append, List.nodup_cons, List.nodup_nil, List.mem_cons, List.not_mem_nil, List.mem_singleton, List.forall_mem_cons, not_or, not_false_eq_true, and_true, true_and, or_false, false_or, forall_eq_or_imp, forall_eq, implies_true, Nat.zero_add, Nat.reduceAdd, and_assoc, ptb_mapA, factsP_bun, ptb_bun, upd_listA, upd_datasA, upd_txA, upd_mapA, upd_bun, upd_fam, ptb_listA, factsP_listA, Nat.mul_one, ptb_datasA, factsP_datasA, ptb_txA, factsP_txA, itCells, ptb_fam, factsP_fam, ptb_learnA, factsP_learnA] at v2
      go_wp2_with fail
      first | apply Mem.atCall | apply Mem.atCode | apply Mem.atList
      case h => repeat' (first | (with_reducible exact O) | (with_reducible apply Mem.drew) | (with_reducible apply Mem.drewN) | (with_reducible apply Mem.ext) | (with_reducible apply Mem.alloc) | (with_reducible apply Mem.setCell) | (simp only [ptb, ptb_upd, foots_cons, List.mem_cons, World.size_alloc, size_ext, World.size_setCell, true_or, or_true, eq_self_iff_true, ptb_mapA, ptb_bun, ptb_listA, ptb_datasA, ptb_txA, ptb_fam, ptb_learnA]))
      case' k =>
        intro w4 O'
        (try clear O)
        have O := O'
        clear O'
        (first | simp only [sel, rst, List.cons_append, List.nil_append, World.size_alloc, size_ext, World.size_setCell, size_setMap, World.size_drew, size_drewN, upd, List.set_cons_zero, List.set_cons_succ, if_true, if_false, reduceIte, not_false_eq_true, ne_lt0, ne_lt1, ne_lt2, ne_lt3, ne_lt4, upd_listA, upd_datasA, upd_txA, upd_mapA, upd_bun, upd_fam, cs] at O | simp only [sel, rst, List.cons_append, List.nil_append, World.size_alloc, size_ext, World.size_setCell, size_setMap, World.size_drew, size_drewN, upd, List.set_cons_zero, List.set_cons_succ, if_true, if_false, reduceIte, not_false_eq_true, ne_lt0, ne_lt1, ne_lt2, ne_lt3, ne_lt4, upd_listA, upd_datasA, upd_txA, upd_mapA, upd_bun, upd_fam] at O | skip)
        (try clear cs)
        (try clear v1)
        (try clear v2)
        (try clear v3)
      refine (CA.out _ (O.pre [false, false, false, false, true])).mono ?_
      rintro e w5 ⟨rfl, o⟩
      replace O := O.callp [false, false, false, false, true] o
      clear o
      simp only [put, List.cons_append, List.nil_append] at O
      cases ac
      · skip
        have cs := O.facts
        try simp only [factsP, cellsP, roomP, foots_cons, foots_nil, foots_append, foot_pt, ptb, ptb_mapA, foot_mapA, factsP_mapA, foot_bun, List.append_nil, List.nil_append, List.cons_append, List.nodup_cons, List.nodup_nil, List.mem_cons, List.not_mem_nil, List.mem_singleton, List.forall_mem_cons, not_or, not_false_eq_true, and_true, true_and, or_false, false_or, forall_eq_or_imp, forall_eq, implies_true, Nat.zero_add, Nat.reduceAdd, and_assoc, ptb_mapA, factsP_bun, ptb_bun, upd_listA, upd_datasA, upd_txA, upd_mapA, upd_bun, upd_fam, ptb_listA, factsP_listA, Nat.mul_one, ptb_datasA, factsP_datasA, ptb_txA, factsP_txA, itCells, ptb_fam, factsP_fam, ptb_learnA, factsP_learnA] at cs
        go_wp2_with fail
        go_ret2
        refine ⟨rfl, ls2, rfl, CLOSE.out { E with ls := ls2, d := E.d } rfl rfl _ ?_⟩
        simp only [EntM.parts, EntM.cells, List.cons_append, List.nil_append, HPTR.out]
        exact O.sel [false, true, true, true, true, true, true, true, true]
      · have hd : ¬ E.d = 0 := by simpa using hc
        have hd2 : (E.d == 0) = false := by simpa using hd
        have hd3 : (E.d != 0) = true := by simpa using hd
        skip
        have cs := O.facts
        try simp only [factsP, cellsP, roomP, foots_cons, foots_nil, foots_append, foot_pt, ptb, ptb_mapA, foot_mapA, factsP_mapA, foot_bun, List.append_nil, List.nil_append, List.cons_append, List.nodup_cons, List.nodup_nil, List.mem_cons, List.not_mem_nil, List.mem_singleton, List.forall_mem_cons, not_or, not_false_eq_true, and_true, true_and, or_false, false_or, forall_eq_or_imp, forall_eq, implies_true, Nat.zero_add, Nat.reduceAdd, and_assoc, ptb_mapA, factsP_bun, ptb_bun, upd_listA, upd_datasA, upd_txA, upd_mapA, upd_bun, upd_fam, ptb_listA, factsP_listA, Nat.mul_one, ptb_datasA, factsP_datasA, ptb_txA, factsP_txA, itCells, ptb_fam, factsP_fam, ptb_learnA, factsP_learnA] at cs
        go_wp2_with fail
        go_ret2
        refine ⟨rfl, ls2, rfl, CLOSE.out { E with ls := ls2, d := E.d } rfl rfl _ ?_⟩
        simp only [EntM.parts, EntM.cells, List.cons_append, List.nil_append, HPTR.out]
        exact O.sel [false, true, true, true, true, true, true, true, true]
    · rw [if_neg hc] at hr
      simp only [not_or, Classical.not_not, Bool.not_eq_false] at hc
      obtain ⟨rfl, hd⟩ := hc
      simp only [Ballot.val] at CA
      rw [hd] at O
      skip
      go_enter Try.func13, Try.ntmps13
      have cs := O.facts
      try simp only [factsP, cellsP, roomP, foots_cons, foots_nil, foots_append, foot_pt, ptb, ptb_mapA, foot_mapA, factsP_mapA, foot_bun, List.append_nil, List.nil_append, List.cons_append, List.nodup_cons, List.nodup_nil, List.mem_cons, List.not_mem_nil, List.mem_singleton, List.forall_mem_cons, not_or, not_false_eq_true, and_true, true_and, or_false, false_or, forall_eq_or_imp, forall_eq, implies_true, Nat.zero_add, Nat.reduceAdd, and_assoc, ptb_mapA, factsP_bun, ptb_bun, upd_listA, upd_datasA, upd_txA, upd_mapA, upd_bun, upd_fam, ptb_listA, factsP_listA, Nat.mul_one, ptb_datasA, factsP_datasA, ptb_txA, factsP_txA, itCells, ptb_fam, factsP_fam, ptb_learnA, factsP_learnA] at cs
      try have v1 := (LKE.out _ (O.map (κ := u64K) (vv := ptrV) (by simp)))
      try simp only [cellsQ, roomP, and_assoc, and_true, true_and, Nat.add_zero, Nat.zero_add, Nat.reduceAdd, factsP, cellsP, roomP, foots_cons, foots_nil, foots_append, foot_pt, ptb, ptb_mapA, foot_mapA, factsP_mapA, foot_bun, List.append_nil, List.nil_append, List.cons_append, List.nodup_cons, List.nodup_nil, List.mem_cons, List.not_mem_nil, List.mem_singleton, List.forall_mem_cons, not_or, not_false_eq_true, and_true, true_and, or_false, false_or, forall_eq_or_imp, forall_eq, implies_true, Nat.zero_add, Nat.reduceAdd, and_assoc, ptb_mapA, factsP_bun, ptb_bun, upd_listA, upd_datasA, upd_txA, upd_mapA, upd_bun, upd_fam, ptb_listA, factsP_listA, Nat.mul_one, ptb_datasA, factsP_datasA, ptb_txA, factsP_txA, itCells, ptb_fam, factsP_fam, ptb_learnA, factsP_learnA] at v1
      try have v2 := (LKL.out _ (O.map (κ := instKey) (vv := ptrV) (by simp)))
      try simp only [cellsQ, roomP, and_assoc, and_true, true_and, Nat.add_zero, Nat.zero_add, Nat.reduceAdd, factsP, cellsP, roomP, foots_cons, foots_nil, foots_append, foot_pt, ptb, ptb_mapA, foot_mapA, factsP_mapA, foot_bun, List.append_nil, List.nil_append, List.cons_append, List.nodup_cons, List.nodup_nil, List.mem_cons, List.not_mem_nil, List.mem_singleton, List.forall_mem_cons, not_or, not_false_eq_true, and_true, true_and, or_false, false_or, forall_eq_or_imp, forall_eq, implies_true, Nat.zero_add, Nat.reduceAdd, and_assoc, ptb_mapA, factsP_bun, ptb_bun, upd_listA, upd_datasA, upd_txA, upd_mapA, upd_bun, upd_fam, ptb_listA, factsP_listA, Nat.mul_one, ptb_datasA, factsP_datasA, ptb_txA, factsP_txA, itCells, ptb_fam, factsP_fam, ptb_learnA, factsP_learnA] at v2
      go_upto_region 1 with fail
      first | apply Mem.atCall | apply Mem.atCode | apply Mem.atList
      case h => repeat' (first | (with_reducible exact O) | (with_reducible apply Mem.drew) | (with_reducible apply Mem.drewN) | (with_reducible apply Mem.ext) | (with_reducible apply Mem.alloc) | (with_reducible apply Mem.setCell) | (simp only [ptb, ptb_upd, foots_cons, List.mem_cons, World.size_alloc, size_ext, World.size_setCell, true_or, or_true, eq_self_iff_true, ptb_mapA, ptb_bun, ptb_listA, ptb_datasA, ptb_txA, ptb_fam, ptb_learnA]))
      case' k =>
        intro w1 O'
        (try clear O)
        have O := O'
        clear O'
        (first | simp only [sel, rst, List.cons_append, List.nil_append, World.size_alloc, size_ext, World.size_setCell, size_setMap, World.size_drew, size_drewN, upd, List.set_cons_zero, List.set_cons_succ, if_true, if_false, reduceIte, not_false_eq_true, ne_lt0, ne_lt1, ne_lt2, ne_lt3, ne_lt4, upd_listA, upd_datasA, upd_txA, upd_mapA, upd_bun, upd_fam, cs] at O | simp only [sel, rst, List.cons_append, List.nil_append, World.size_alloc, size_ext, World.size_setCell, size_setMap, World.size_drew, size_drewN, upd, List.set_cons_zero, List.set_cons_succ, if_true, if_false, reduceIte, not_false_eq_true, ne_lt0, ne_lt1, ne_lt2, ne_lt3, ne_lt4, upd_listA, upd_datasA, upd_txA, upd_mapA, upd_bun, upd_fam] at O | skip)
        (try clear cs)
        (try clear v1)
        (try clear v2)
        (try clear v3)
      generalize w.heap.size = bb at O ⊢
      have cs := O.facts
      try simp only [factsP, cellsP, roomP, foots_cons, foots_nil, foots_append, foot_pt, ptb, ptb_mapA, foot_mapA, factsP_mapA, foot_bun, List.append_nil, List.nil_append, List.cons_append, List.nodup_cons, List.nodup_nil, List.mem_cons, List.not_mem_nil, List.mem_singleton, List.forall_mem_cons, not_or, not_false_eq_true, and_true, true_and, or_false, false_or, forall_eq_or_imp, forall_eq, implies_true, Nat.zero_add, Nat.reduceAdd, and_assoc, ptb_mapA, factsP_bun, ptb_bun, upd_listA, upd_datasA, upd_txA, upd_mapA, upd_bun, upd_fam, ptb_listA, factsP_listA, Nat.mul_one, ptb_datasA, factsP_datasA, ptb_txA, factsP_txA, itCells, ptb_fam, factsP_fam, ptb_learnA, factsP_learnA] at cs
      try have v1 := (LKE.out _ (O.map (κ := u64K) (vv := ptrV) (by simp)))
      try simp only [cellsQ, roomP, and_assoc, and_true, true_and, Nat.add_zero, Nat.zero_add, Nat.reduceAdd, factsP, cellsP, roomP, foots_cons, foots_nil, foots_append, foot_pt, ptb, ptb_mapA, foot_mapA, factsP_mapA, foot_bun, List.append_nil, List.nil_append, List.cons_append, List.nodup_cons, List.nodup_nil, List.mem_cons, List.not_mem_nil, List.mem_singleton, List.forall_mem_cons, not_or, not_false_eq_true, and_true, true_and, or_false, false_or, forall_eq_or_imp, forall_eq, implies_true, Nat.zero_add, Nat.reduceAdd, and_assoc, ptb_mapA, factsP_bun, ptb_bun, upd_listA, upd_datasA, upd_txA, upd_mapA, upd_bun, upd_fam, ptb_listA, factsP_listA, Nat.mul_one, ptb_datasA, factsP_datasA, ptb_txA, factsP_txA, itCells, ptb_fam, factsP_fam, ptb_learnA, factsP_learnA] at v1
      try have v2 := (LKL.out _ (O.map (κ := instKey) (vv := ptrV) (by simp)))
      try simp only [cellsQ, roomP, and_assoc, and_true, true_and, Nat.add_zero, Nat.zero_add, Nat.reduceAdd, factsP, cellsP, roomP, foots_cons, foots_nil, foots_append, foot_pt, ptb, ptb_mapA, foot_mapA, factsP_mapA, foot_bun, List.append_nil, List.nil_append, List.cons_append, List.nodup_cons, List.nodup_nil, List.mem_cons, List.not_mem_nil, List.mem_singleton, List.forall_mem_cons, not_or, not_false_eq_true, and_true, true_and, or_false, false_or, forall_eq_or_imp, forall_eq, implies_true, Nat.zero_add, Nat.reduceAdd, and_assoc, ptb_mapA, factsP_bun, ptb_bun, upd_listA, upd_datasA, upd_txA, upd_mapA, upd_bun, upd_fam, ptb_listA, factsP_listA, Nat.mul_one, ptb_datasA, factsP_datasA, ptb_txA, factsP_txA, itCells, ptb_fam, factsP_fam, ptb_learnA, factsP_learnA] at v2
      go_wp2_with fail
      first | apply Mem.atCall | apply Mem.atCode | apply Mem.atList
      case h => repeat' (first | (with_reducible exact O) | (with_reducible apply Mem.drew) | (with_reducible apply Mem.drewN) | (with_reducible apply Mem.ext) | (with_reducible apply Mem.alloc) | (with_reducible apply Mem.setCell) | (simp only [ptb, ptb_upd, foots_cons, List.mem_cons, World.size_alloc, size_ext, World.size_setCell, true_or, or_true, eq_self_iff_true, ptb_mapA, ptb_bun, ptb_listA, ptb_datasA, ptb_txA, ptb_fam, ptb_learnA]))
      case' k =>
        intro w2 O'
        (try clear O)
        have O := O'
        clear O'
        (first | simp only [sel, rst, List.cons_append, List.nil_append, World.size_alloc, size_ext, World.size_setCell, size_setMap, World.size_drew, size_drewN, upd, List.set_cons_zero, List.set_cons_succ, if_true, if_false, reduceIte, not_false_eq_true, ne_lt0, ne_lt1, ne_lt2, ne_lt3, ne_lt4, upd_listA, upd_datasA, upd_txA, upd_mapA, upd_bun, upd_fam, cs] at O | simp only [sel, rst, List.cons_append, List.nil_append, World.size_alloc, size_ext, World.size_setCell, size_setMap, World.size_drew, size_drewN, upd, List.set_cons_zero, List.set_cons_succ, if_true, if_false, reduceIte, not_false_eq_true, ne_lt0, ne_lt1, ne_lt2, ne_lt3, ne_lt4, upd_listA, upd_datasA, upd_txA, upd_mapA, upd_bun, upd_fam] at O | skip)
        (try clear cs)
        (try clear v1)
        (try clear v2)
        (try clear v3)
      refine (CRD.out _).mono ?_
      rintro e w3 ⟨rfl, o⟩
      replace O := O.callp [] o
      clear o
      simp only [put, List.cons_append, List.nil_append] at O
      have cs := O.facts
      try simp only [factsP, cellsP, roomP, foots_cons, foots_nil, foots_append, foot_pt, ptb, ptb_mapA, foot_mapA, factsP_mapA, foot_bun, List.append_nil, List.nil_append, List.cons_append, List.nodup_cons, List.nodup_nil, List.mem_cons, List.not_mem_nil, List.mem_singleton, List.forall_mem_cons, not_or, not_false_eq_true, and_true, true_and, or_false, false_or, forall_eq_or_imp, forall_eq, implies_true, Nat.zero_add, Nat.reduceAdd, and_assoc, ptb_mapA, factsP_bun, ptb_bun, upd_listA, upd_datasA, upd_txA, upd_mapA, upd_bun, upd_fam, ptb_listA, factsP_listA, Nat.mul_one, ptb_datasA, factsP_datasA, ptb_txA, factsP_txA, itCells, ptb_fam, factsP_fam, ptb_learnA, factsP_learnA] at cs
      try have v1 := (LKE.out _ (O.map (κ := u64K) (vv := ptrV) (by simp)))
      try simp only [cellsQ, roomP, and_assoc, and_true, true_and, Nat.add_zero, Nat.zero_add, Nat.reduceAdd, factsP, cellsP, roomP, foots_cons, foots_nil, foots_append, foot_pt, ptb, ptb_mapA, foot_mapA, factsP_mapA, foot_bun, List.append_nil, List.nil_append, List.cons_append, List.nodup_cons, List.nodup_nil, List.mem_cons, List.not_mem_nil, List.mem_singleton, List.forall_mem_cons, not_or, not_false_eq_true, and_true, true_and, or_false, false_or, forall_eq_or_imp, forall_eq, implies_true, Nat.zero_add, Nat.reduceAdd, and_assoc, ptb_mapA, factsP_bun, ptb_bun, upd_listA, upd_datasA, upd_txA, upd_mapA, upd_bun, upd_fam, ptb_listA, factsP_listA, Nat.mul_one, ptb_datasA, factsP_datasA, ptb_txA, factsP_txA, itCells, ptb_fam, factsP_fam, ptb_learnA, factsP_learnA] at v1
      try have v2 := (LKL.out _ (O.map (κ := instKey) (vv := ptrV) (by simp)))
      try simp only [cellsQ, roomP, and_assoc, and_true, true_and, Nat.add_zero, Nat.zero_add, Nat.reduceAdd, factsP, cellsP, roomP, foots_cons, foots_nil, foots_append, foot_pt, ptb, ptb_mapA, foot_mapA, factsP_mapA, foot_bun, List.append_nil, List.nil_append, List.cons_append, List.nodup_cons, List.nodup_nil, List.mem_cons, List.not_mem_nil, List.mem_singleton, List.forall_mem_cons, not_or, not_false_eq_true, and_true, true_and, or_false, false_or, forall_eq_or_imp, forall_eq, implies_true, Nat.zero_add, Nat.reduceAdd, and_assoc, ptb_mapA, factsP_bun, ptb_bun, upd_listA, upd_datasA, upd_txA, upd_mapA, upd_bun, upd_fam, ptb_listA, factsP_listA, Nat.mul_one, ptb_datasA, factsP_datasA, ptb_txA, factsP_txA, itCells, ptb_fam, factsP_fam, ptb_learnA, factsP_learnA] at v2
      go_wp2_with fail
      first | apply Mem.atCall | apply Mem.atCode | apply Mem.atList
      case h => repeat' (first | (with_reducible exact O) | (with_reducible apply Mem.drew) | (with_reducible apply Mem.drewN) | (with_reducible apply Mem.ext) | (with_reducible apply Mem.alloc) | (with_reducible apply Mem.setCell) | (simp only [ptb, ptb_upd, foots_cons, List.mem_cons, World.size_alloc, size_ext, World.size_setCell, true_or, or_true, eq_self_iff_true, ptb_mapA, ptb_bun, ptb_listA, ptb_datasA, ptb_txA, ptb_fam, ptb_learnA]))
      case' k =>
        intro w4 O'
        (try clear O)
        have O := O'
        clear O'
        (first | simp only [sel, rst, List.cons_append, List.nil_append, World.size_alloc, size_ext, World.size_setCell, size_setMap, World.size_drew, size_drewN, upd, List.set_cons_zero, List.set_cons_succ, if_true, if_false, reduceIte, not_false_eq_true, ne_lt0, ne_lt1, ne_lt2, ne_lt3, ne_lt4, upd_listA, upd_datasA, upd_txA, upd_mapA, upd_bun, upd_fam, cs] at O | simp only [sel, rst, List.cons_append, List.nil_append, World.size_alloc, size_ext, World.size_setCell, size_setMap, World.size_drew, size_drewN, upd, List.set_cons_zero, List.set_cons_succ, if_true, if_false, reduceIte, not_false_eq_true, ne_lt0, ne_lt1, ne_lt2, ne_lt3, ne_lt4, upd_listA, upd_datasA, upd_txA, upd_mapA, upd_bun, upd_fam] at O | skip)
        (try clear cs)
        (try clear v1)
        (try clear v2)
        (try clear v3)
      refine (CA.out _ (O.pre [false, false, false, false, true])).mono ?_
      rintro e w5 ⟨rfl, o⟩
      replace O := O.callp [false, false, false, false, true] o
      clear o
      simp only [put, List.cons_append, List.nil_append] at O
      have hg0 : ({ E with ls := ls2, d := 0 } : EntM).good := ⟨HGOOD.out.id, HGOOD.out.m0, HGOOD.out.m1, HGOOD.out.m2, HGOOD.out.len, HGOOD.out.bk, HGOOD.out.has⟩
      have CVV := Lib.hid (fun W (hW : Pre W ({ E with ls := ls2, d := 0 } : EntM).parts) => m_votesQ W { E with ls := ls2, d := 0 } hg0 hW)
      simp only [EntM.parts, EntM.cells] at CVV
      clear CV hg0
      have HN := Lib.hid (votesAfter_len (plnOf ls2) E.s.length (visits E.id E.s))
      unfold decideOf at hr
      rw [← HPTR.out] at O
      have CDD := Lib.hid (fun W A2 c2 hW => CD.out W A2 c2 _ HN.out hW)
      generalize votesAfter (plnOf ls2) E.s.length (visits E.id E.s) = rows at *
      rw [show (TxR.mk E.id E.client E.m0 E.m1 E.m2 (.slice E.A E.s.length E.c) (E.s.map ItS.r)) = E.tx from rfl] at CDD
      generalize decide18 E.tx.right E.s.length E.s.length (fun i => rows.getD i (fun _ => 0)) (incsOf (E.s.map ItS.r)) = dv at hr CDD
      obtain ⟨dv1, dv2⟩ := dv
      simp only at hr CDD
      subst hr
      clear hd CD
      skip
      have cs := O.facts
      try simp only [factsP, cellsP, roomP, foots_cons, foots_nil, foots_append, foot_pt, ptb, ptb_mapA, foot_mapA, factsP_mapA, foot_bun, List.append_nil, List.nil_append, List.cons_append, List.nodup_cons, List.nodup_nil, List.mem_cons, List.not_mem_nil, List.mem_singleton, List.forall_mem_cons, not_or, not_false_eq_true, and_true, true_and, or_false, false_or, forall_eq_or_imp, forall_eq, implies_true, Nat.zero_add, Nat.reduceAdd, and_assoc, ptb_mapA, factsP_bun, ptb_bun, upd_listA, upd_datasA, upd_txA, upd_mapA, upd_bun, upd_fam, ptb_listA, factsP_listA, Nat.mul_one, ptb_datasA, factsP_datasA, ptb_txA, factsP_txA, itCells, ptb_fam, factsP_fam, ptb_learnA, factsP_learnA] at cs
      go_upto_region 14 with fail
      apply region_held_mem [] (by kernel_rfl)
      case O => repeat' (first | (with_reducible exact O) | (with_reducible apply Mem.drew) | (with_reducible apply Mem.drewN) | (with_reducible apply Mem.ext) | (with_reducible apply Mem.alloc) | (with_reducible apply Mem.setCell) | (simp only [ptb, ptb_upd, foots_cons, List.mem_cons, World.size_alloc, size_ext, World.size_setCell, true_or, or_true, eq_self_iff_true, ptb_mapA, ptb_bun, ptb_listA, ptb_datasA, ptb_txA, ptb_fam, ptb_learnA]))
      case' h =>
        intro wr1 O'
        (try clear O)
        have O := O'
        clear O'
        (first | simp only [sel, rst, List.cons_append, List.nil_append, World.size_alloc, size_ext, World.size_setCell, size_setMap, World.size_drew, size_drewN, upd, List.set_cons_zero, List.set_cons_succ, if_true, if_false, reduceIte, not_false_eq_true, ne_lt0, ne_lt1, ne_lt2, ne_lt3, ne_lt4, upd_listA, upd_datasA, upd_txA, upd_mapA, upd_bun, upd_fam, cs] at O | simp only [sel, rst, List.cons_append, List.nil_append, World.size_alloc, size_ext, World.size_setCell, size_setMap, World.size_drew, size_drewN, upd, List.set_cons_zero, List.set_cons_succ, if_true, if_false, reduceIte, not_false_eq_true, ne_lt0, ne_lt1, ne_lt2, ne_lt3, ne_lt4, upd_listA, upd_datasA, upd_txA, upd_mapA, upd_bun, upd_fam] at O | skip)
        (try clear cs)
        (try clear v1)
        (try clear v2)
        (try clear v3)
      refine takeH (i := 0) (v := ?v1_1) rfl (by kernel_rfl) (by kernel_rfl) (by kernel_rfl) (fun _ _ _ h => h) (by rfl) ?y1_1 (O.sel []) ?r1_1
      case y1_1 =>
        intro WW hSw
        (go_simp) <;> (with_reducible rfl)
      case' r1_1 =>
        try simp only [Act.put, List.setIfInBounds_toArray, List.set_cons_zero, List.set_cons_succ]
      refine takeH (i := 1) (v := ?v1_2) rfl (by kernel_rfl) (by kernel_rfl) (by kernel_rfl) (fun _ _ _ h => h) (by rfl) ?y1_2 (O.sel []) ?r1_2
      case y1_2 =>
        intro WW hSw
        (go_simp) <;> (with_reducible rfl)
      case' r1_2 =>
        try simp only [Act.put, List.setIfInBounds_toArray, List.set_cons_zero, List.set_cons_succ]
      refine takeH (i := 2) (v := ?v1_3) rfl (by kernel_rfl) (by kernel_rfl) (by kernel_rfl) (fun _ _ _ h => h) (by rfl) ?y1_3 (O.sel []) ?r1_3
      case y1_3 =>
        intro WW hSw
        (go_simp) <;> (with_reducible rfl)
      case' r1_3 =>
        try simp only [Act.put, List.setIfInBounds_toArray, List.set_cons_zero, List.set_cons_succ]
      refine takeH (i := 3) (v := ?v1_4) rfl (by kernel_rfl) (by kernel_rfl) (by kernel_rfl) (fun _ _ _ h => h) (by rfl) ?y1_4 (O.sel []) ?r1_4
      case y1_4 =>
        intro WW hSw
        (go_simp) <;> (with_reducible rfl)
      case' r1_4 =>
        try simp only [Act.put, List.setIfInBounds_toArray, List.set_cons_zero, List.set_cons_succ]
      refine takeH (i := 5) (v := ?v1_5) rfl (by kernel_rfl) (by kernel_rfl) (by kernel_rfl) (fun _ _ _ h => h) (by rfl) ?y1_5 (O.sel []) ?r1_5
      case y1_5 =>
        intro WW hSw
        (go_simp) <;> (with_reducible rfl)
      case' r1_5 =>
        try simp only [Act.put, List.setIfInBounds_toArray, List.set_cons_zero, List.set_cons_succ]
      apply cutX0
      case main =>
        intro hT1_0
        refine wpAnyH_ready (rs := [4, 6]) (by kernel_rfl) (by simp) ?_
        refine consH rfl (fun K hK => ?_) ?_
        · have cs := O.facts
          simp only [factsP, cellsP, roomP, foots_cons, foots_nil, foots_append, foot_pt, ptb, ptb_mapA, foot_mapA, factsP_mapA, foot_bun, List.append_nil, List.nil_append, List.cons_append, List.nodup_cons, List.nodup_nil, List.mem_cons, List.not_mem_nil, List.mem_singleton, List.forall_mem_cons, not_or, not_false_eq_true, and_true, true_and, or_false, false_or, forall_eq_or_imp, forall_eq, implies_true, Nat.zero_add, Nat.reduceAdd, and_assoc, ptb_mapA, factsP_bun, ptb_bun, upd_listA, upd_datasA, upd_txA, upd_mapA, upd_bun, upd_fam, ptb_listA, factsP_listA, Nat.mul_one, ptb_datasA, factsP_datasA, ptb_txA, factsP_txA, itCells, ptb_fam, factsP_fam, ptb_learnA, factsP_learnA] at cs
          go_simp
          apply Mem.atK
          case h => repeat' (first | (with_reducible exact O) | (with_reducible apply Mem.drew) | (with_reducible apply Mem.drewN) | (with_reducible apply Mem.ext) | (with_reducible apply Mem.alloc) | (with_reducible apply Mem.setCell) | (simp only [ptb, ptb_upd, foots_cons, List.mem_cons, World.size_alloc, size_ext, World.size_setCell, true_or, or_true, eq_self_iff_true, ptb_mapA, ptb_bun, ptb_listA, ptb_datasA, ptb_txA, ptb_fam, ptb_learnA]))
          intro w1_6 O'
          (try clear O)
          have O := O'
          clear O'
          (first | simp only [sel, rst, List.cons_append, List.nil_append, World.size_alloc, size_ext, World.size_setCell, size_setMap, World.size_drew, size_drewN, upd, List.set_cons_zero, List.set_cons_succ, if_true, if_false, reduceIte, not_false_eq_true, ne_lt0, ne_lt1, ne_lt2, ne_lt3, ne_lt4, upd_listA, upd_datasA, upd_txA, upd_mapA, upd_bun, upd_fam, cs] at O | simp only [sel, rst, List.cons_append, List.nil_append, World.size_alloc, size_ext, World.size_setCell, size_setMap, World.size_drew, size_drewN, upd, List.set_cons_zero, List.set_cons_succ, if_true, if_false, reduceIte, not_false_eq_true, ne_lt0, ne_lt1, ne_lt2, ne_lt3, ne_lt4, upd_listA, upd_datasA, upd_txA, upd_mapA, upd_bun, upd_fam] at O | skip)
          (try clear cs)
          (try clear v1)
          (try clear v2)
          (try clear v3)
          refine hK.out _ _ (O.sel []) (fun _ => ?_)
          clear hK K
          refine wpAnyH_ready (rs := [6]) (by kernel_rfl) (by simp) ?_
          refine consH rfl (fun K hK => ?_) AllReadyH.nil
          have cs := O.facts
          simp only [factsP, cellsP, roomP, foots_cons, foots_nil, foots_append, foot_pt, ptb, ptb_mapA, foot_mapA, factsP_mapA, foot_bun, List.append_nil, List.nil_append, List.cons_append, List.nodup_cons, List.nodup_nil, List.mem_cons, List.not_mem_nil, List.mem_singleton, List.forall_mem_cons, not_or, not_false_eq_true, and_true, true_and, or_false, false_or, forall_eq_or_imp, forall_eq, implies_true, Nat.zero_add, Nat.reduceAdd, and_assoc, ptb_mapA, factsP_bun, ptb_bun, upd_listA, upd_datasA, upd_txA, upd_mapA, upd_bun, upd_fam, ptb_listA, factsP_listA, Nat.mul_one, ptb_datasA, factsP_datasA, ptb_txA, factsP_txA, itCells, ptb_fam, factsP_fam, ptb_learnA, factsP_learnA] at cs
          go_simp
          apply Mem.atCall
          case h => repeat' (first | (with_reducible exact O) | (with_reducible apply Mem.drew) | (with_reducible apply Mem.drewN) | (with_reducible apply Mem.ext) | (with_reducible apply Mem.alloc) | (with_reducible apply Mem.setCell) | (simp only [ptb, ptb_upd, foots_cons, List.mem_cons, World.size_alloc, size_ext, World.size_setCell, true_or, or_true, eq_self_iff_true, ptb_mapA, ptb_bun, ptb_listA, ptb_datasA, ptb_txA, ptb_fam, ptb_learnA]))
          intro w1_7 O'
          (try clear O)
          have O := O'
          clear O'
          (first | simp only [sel, rst, List.cons_append, List.nil_append, World.size_alloc, size_ext, World.size_setCell, size_setMap, World.size_drew, size_drewN, upd, List.set_cons_zero, List.set_cons_succ, if_true, if_false, reduceIte, not_false_eq_true, ne_lt0, ne_lt1, ne_lt2, ne_lt3, ne_lt4, upd_listA, upd_datasA, upd_txA, upd_mapA, upd_bun, upd_fam, cs] at O | simp only [sel, rst, List.cons_append, List.nil_append, World.size_alloc, size_ext, World.size_setCell, size_setMap, World.size_drew, size_drewN, upd, List.set_cons_zero, List.set_cons_succ, if_true, if_false, reduceIte, not_false_eq_true, ne_lt0, ne_lt1, ne_lt2, ne_lt3, ne_lt4, upd_listA, upd_datasA, upd_txA, upd_mapA, upd_bun, upd_fam] at O | skip)
          (try clear cs)
          (try clear v1)
          (try clear v2)
          (try clear v3)
          refine (CVV.out _ (O.pre [false, true, true, true, true, false, false, false, false])).mono ?_
          rintro e w1_7' ⟨q, rfl, o⟩
          replace O := O.callp [false, true, true, true, true, false, false, false, false] o
          clear o
          simp only [put, List.cons_append, List.nil_append] at O
          go_wp2_with fail
          refine hK.out _ _ (O.sel []) (fun _ => ?_)
          clear hK K
          revert O
          exact hT1_0.out q w1_7'
        refine consH rfl (fun K hK => ?_) ?_
        · have cs := O.facts
          simp only [factsP, cellsP, roomP, foots_cons, foots_nil, foots_append, foot_pt, ptb, ptb_mapA, foot_mapA, factsP_mapA, foot_bun, List.append_nil, List.nil_append, List.cons_append, List.nodup_cons, List.nodup_nil, List.mem_cons, List.not_mem_nil, List.mem_singleton, List.forall_mem_cons, not_or, not_false_eq_true, and_true, true_and, or_false, false_or, forall_eq_or_imp, forall_eq, implies_true, Nat.zero_add, Nat.reduceAdd, and_assoc, ptb_mapA, factsP_bun, ptb_bun, upd_listA, upd_datasA, upd_txA, upd_mapA, upd_bun, upd_fam, ptb_listA, factsP_listA, Nat.mul_one, ptb_datasA, factsP_datasA, ptb_txA, factsP_txA, itCells, ptb_fam, factsP_fam, ptb_learnA, factsP_learnA] at cs
          go_simp
          apply Mem.atCall
          case h => repeat' (first | (with_reducible exact O) | (with_reducible apply Mem.drew) | (with_reducible apply Mem.drewN) | (with_reducible apply Mem.ext) | (with_reducible apply Mem.alloc) | (with_reducible apply Mem.setCell) | (simp only [ptb, ptb_upd, foots_cons, List.mem_cons, World.size_alloc, size_ext, World.size_setCell, true_or, or_true, eq_self_iff_true, ptb_mapA, ptb_bun, ptb_listA, ptb_datasA, ptb_txA, ptb_fam, ptb_learnA]))
          intro w1_8 O'
          (try clear O)
          have O := O'
          clear O'
          (first | simp only [sel, rst, List.cons_append, List.nil_append, World.size_alloc, size_ext, World.size_setCell, size_setMap, World.size_drew, size_drewN, upd, List.set_cons_zero, List.set_cons_succ, if_true, if_false, reduceIte, not_false_eq_true, ne_lt0, ne_lt1, ne_lt2, ne_lt3, ne_lt4, upd_listA, upd_datasA, upd_txA, upd_mapA, upd_bun, upd_fam, cs] at O | simp only [sel, rst, List.cons_append, List.nil_append, World.size_alloc, size_ext, World.size_setCell, size_setMap, World.size_drew, size_drewN, upd, List.set_cons_zero, List.set_cons_succ, if_true, if_false, reduceIte, not_false_eq_true, ne_lt0, ne_lt1, ne_lt2, ne_lt3, ne_lt4, upd_listA, upd_datasA, upd_txA, upd_mapA, upd_bun, upd_fam] at O | skip)
          (try clear cs)
          (try clear v1)
          (try clear v2)
          (try clear v3)
          refine (CVV.out _ (O.pre [false, true, true, true, true, false, false, false, false])).mono ?_
          rintro e w1_8' ⟨q, rfl, o⟩
          replace O := O.callp [false, true, true, true, true, false, false, false, false] o
          clear o
          simp only [put, List.cons_append, List.nil_append] at O
          go_wp2_with fail
          refine hK.out _ _ (O.sel []) (fun _ => ?_)
          clear hK K
          refine wpAnyH_ready (rs := [4]) (by kernel_rfl) (by simp) ?_
          refine consH rfl (fun K hK => ?_) AllReadyH.nil
          have cs := O.facts
          simp only [factsP, cellsP, roomP, foots_cons, foots_nil, foots_append, foot_pt, ptb, ptb_mapA, foot_mapA, factsP_mapA, foot_bun, List.append_nil, List.nil_append, List.cons_append, List.nodup_cons, List.nodup_nil, List.mem_cons, List.not_mem_nil, List.mem_singleton, List.forall_mem_cons, not_or, not_false_eq_true, and_true, true_and, or_false, false_or, forall_eq_or_imp, forall_eq, implies_true, Nat.zero_add, Nat.reduceAdd, and_assoc, ptb_mapA, factsP_bun, ptb_bun, upd_listA, upd_datasA, upd_txA, upd_mapA, upd_bun, upd_fam, ptb_listA, factsP_listA, Nat.mul_one, ptb_datasA, factsP_datasA, ptb_txA, factsP_txA, itCells, ptb_fam, factsP_fam, ptb_learnA, factsP_learnA] at cs
          go_simp
          apply Mem.atK
          case h => repeat' (first | (with_reducible exact O) | (with_reducible apply Mem.drew) | (with_reducible apply Mem.drewN) | (with_reducible apply Mem.ext) | (with_reducible apply Mem.alloc) | (with_reducible apply Mem.setCell) | (simp only [ptb, ptb_upd, foots_cons, List.mem_cons, World.size_alloc, size_ext, World.size_setCell, true_or, or_true, eq_self_iff_true, ptb_mapA, ptb_bun, ptb_listA, ptb_datasA, ptb_txA, ptb_fam, ptb_learnA]))
          intro w1_9 O'
          (try clear O)
          have O := O'
          clear O'
          (first | simp only [sel, rst, List.cons_append, List.nil_append, World.size_alloc, size_ext, World.size_setCell, size_setMap, World.size_drew, size_drewN, upd, List.set_cons_zero, List.set_cons_succ, if_true, if_false, reduceIte, not_false_eq_true, ne_lt0, ne_lt1, ne_lt2, ne_lt3, ne_lt4, upd_listA, upd_datasA, upd_txA, upd_mapA, upd_bun, upd_fam, cs] at O | simp only [sel, rst, List.cons_append, List.nil_append, World.size_alloc, size_ext, World.size_setCell, size_setMap, World.size_drew, size_drewN, upd, List.set_cons_zero, List.set_cons_succ, if_true, if_false, reduceIte, not_false_eq_true, ne_lt0, ne_lt1, ne_lt2, ne_lt3, ne_lt4, upd_listA, upd_datasA, upd_txA, upd_mapA, upd_bun, upd_fam] at O | skip)
          (try clear cs)
          (try clear v1)
          (try clear v2)
          (try clear v3)
          refine hK.out _ _ (O.sel []) (fun _ => ?_)
          clear hK K
          revert O
          exact hT1_0.out q w1_9
        exact AllReadyH.nil
      case' tail =>
        intro q w1_10 O
      refine wpAnyH_ready (rs := [7]) (by kernel_rfl) (by simp) ?_
      refine consH rfl (fun K hK => ?_) AllReadyH.nil
      have cs := O.facts
      simp only [factsP, cellsP, roomP, foots_cons, foots_nil, foots_append, foot_pt, ptb, ptb_mapA, foot_mapA, factsP_mapA, foot_bun, List.append_nil, List.nil_append, List.cons_append, List.nodup_cons, List.nodup_nil, List.mem_cons, List.not_mem_nil, List.mem_singleton, List.forall_mem_cons, not_or, not_false_eq_true, and_true, true_and, or_false, false_or, forall_eq_or_imp, forall_eq, implies_true, Nat.zero_add, Nat.reduceAdd, and_assoc, ptb_mapA, factsP_bun, ptb_bun, upd_listA, upd_datasA, upd_txA, upd_mapA, upd_bun, upd_fam, ptb_listA, factsP_listA, Nat.mul_one, ptb_datasA, factsP_datasA, ptb_txA, factsP_txA, itCells, ptb_fam, factsP_fam, ptb_learnA, factsP_learnA] at cs
      go_simp
      apply Mem.atCall
      case h => repeat' (first | (with_reducible exact O) | (with_reducible apply Mem.drew) | (with_reducible apply Mem.drewN) | (with_reducible apply Mem.ext) | (with_reducible apply Mem.alloc) | (with_reducible apply Mem.setCell) | (simp only [ptb, ptb_upd, foots_cons, List.mem_cons, World.size_alloc, size_ext, World.size_setCell, true_or, or_true, eq_self_iff_true, ptb_mapA, ptb_bun, ptb_listA, ptb_datasA, ptb_txA, ptb_fam, ptb_learnA]))
      intro w1_11 O'
      (try clear O)
      have O := O'
      clear O'
      (first | simp only [sel, rst, List.cons_append, List.nil_append, World.size_alloc, size_ext, World.size_setCell, size_setMap, World.size_drew, size_drewN, upd, List.set_cons_zero, List.set_cons_succ, if_true, if_false, reduceIte, not_false_eq_true, ne_lt0, ne_lt1, ne_lt2, ne_lt3, ne_lt4, upd_listA, upd_datasA, upd_txA, upd_mapA, upd_bun, upd_fam, cs] at O | simp only [sel, rst, List.cons_append, List.nil_append, World.size_alloc, size_ext, World.size_setCell, size_setMap, World.size_drew, size_drewN, upd, List.set_cons_zero, List.set_cons_succ, if_true, if_false, reduceIte, not_false_eq_true, ne_lt0, ne_lt1, ne_lt2, ne_lt3, ne_lt4, upd_listA, upd_datasA, upd_txA, upd_mapA, upd_bun, upd_fam] at O | skip)
      (try clear cs)
      (try clear v1)
      (try clear v2)
      (try clear v3)
      refine (CDD.out _ _ _ (O.pre [false, true, false, true])).mono ?_
      rintro e w1_11' ⟨rfl, o⟩
      replace O := O.callp [] o
      clear o
      simp only [put, List.cons_append, List.nil_append] at O
      go_wp2_with fail
      refine hK.out _ _ (O.sel []) (fun _ => ?_)
      clear hK K
      refine takeH (i := 8) (v := ?v1_12) rfl (by kernel_rfl) (by kernel_rfl) (by kernel_rfl) (fun _ _ _ h => h) (by rfl) ?y1_12 (O.sel []) ?r1_12
      case y1_12 =>
        intro WW hSw
        (go_simp) <;> (with_reducible rfl)
      case' r1_12 =>
        try simp only [Act.put, List.setIfInBounds_toArray, List.set_cons_zero, List.set_cons_succ]
      refine takeH (i := 9) (v := ?v1_13) rfl (by kernel_rfl) (by kernel_rfl) (by kernel_rfl) (fun _ _ _ h => h) (by rfl) ?y1_13 (O.sel []) ?r1_13
      case y1_13 =>
        intro WW hSw
        (go_simp) <;> (with_reducible rfl)
      case' r1_13 =>
        try simp only [Act.put, List.setIfInBounds_toArray, List.set_cons_zero, List.set_cons_succ]
      refine takeH (i := 10) (v := ?v1_14) rfl (by kernel_rfl) (by kernel_rfl) (by kernel_rfl) (fun _ _ _ h => h) (by rfl) ?y1_14 (O.sel []) ?r1_14
      case y1_14 =>
        intro WW hSw
        (go_simp) <;> (with_reducible rfl)
      case' r1_14 =>
        try simp only [Act.put, List.setIfInBounds_toArray, List.set_cons_zero, List.set_cons_succ]
      refine takeH (i := 11) (v := ?v1_15) rfl (by kernel_rfl) (by kernel_rfl) (by kernel_rfl) (fun _ _ _ h => h) (by rfl) ?y1_15 (O.sel []) ?r1_15
      case y1_15 =>
        intro WW hSw
        (go_simp) <;> (with_reducible rfl)
      case' r1_15 =>
        try simp only [Act.put, List.setIfInBounds_toArray, List.set_cons_zero, List.set_cons_succ]
      refine takeH (i := 12) (v := ?v1_16) rfl (by kernel_rfl) (by kernel_rfl) (by kernel_rfl) (fun _ _ _ h => h) (by rfl) ?y1_16 (O.sel []) ?r1_16
      case y1_16 =>
        intro WW hSw
        (go_simp) <;> (with_reducible rfl)
      case' r1_16 =>
        try simp only [Act.put, List.setIfInBounds_toArray, List.set_cons_zero, List.set_cons_succ]
      refine wpAnyH_ready (rs := [13]) (by kernel_rfl) (by simp) ?_
      refine consH rfl (fun K hK => ?_) AllReadyH.nil
      have cs := O.facts
      simp only [factsP, cellsP, roomP, foots_cons, foots_nil, foots_append, foot_pt, ptb, ptb_mapA, foot_mapA, factsP_mapA, foot_bun, List.append_nil, List.nil_append, List.cons_append, List.nodup_cons, List.nodup_nil, List.mem_cons, List.not_mem_nil, List.mem_singleton, List.forall_mem_cons, not_or, not_false_eq_true, and_true, true_and, or_false, false_or, forall_eq_or_imp, forall_eq, implies_true, Nat.zero_add, Nat.reduceAdd, and_assoc, ptb_mapA, factsP_bun, ptb_bun, upd_listA, upd_datasA, upd_txA, upd_mapA, upd_bun, upd_fam, ptb_listA, factsP_listA, Nat.mul_one, ptb_datasA, factsP_datasA, ptb_txA, factsP_txA, itCells, ptb_fam, factsP_fam, ptb_learnA, factsP_learnA] at cs
      go_simp
      apply Mem.atK
      case h => repeat' (first | (with_reducible exact O) | (with_reducible apply Mem.drew) | (with_reducible apply Mem.drewN) | (with_reducible apply Mem.ext) | (with_reducible apply Mem.alloc) | (with_reducible apply Mem.setCell) | (simp only [ptb, ptb_upd, foots_cons, List.mem_cons, World.size_alloc, size_ext, World.size_setCell, true_or, or_true, eq_self_iff_true, ptb_mapA, ptb_bun, ptb_listA, ptb_datasA, ptb_txA, ptb_fam, ptb_learnA]))
      intro w1_17 O'
      (try clear O)
      have O := O'
      clear O'
      (first | simp only [sel, rst, List.cons_append, List.nil_append, World.size_alloc, size_ext, World.size_setCell, size_setMap, World.size_drew, size_drewN, upd, List.set_cons_zero, List.set_cons_succ, if_true, if_false, reduceIte, not_false_eq_true, ne_lt0, ne_lt1, ne_lt2, ne_lt3, ne_lt4, upd_listA, upd_datasA, upd_txA, upd_mapA, upd_bun, upd_fam, cs] at O | simp only [sel, rst, List.cons_append, List.nil_append, World.size_alloc, size_ext, World.size_setCell, size_setMap, World.size_drew, size_drewN, upd, List.set_cons_zero, List.set_cons_succ, if_true, if_false, reduceIte, not_false_eq_true, ne_lt0, ne_lt1, ne_lt2, ne_lt3, ne_lt4, upd_listA, upd_datasA, upd_txA, upd_mapA, upd_bun, upd_fam] at O | skip)
      (try clear cs)
      (try clear v1)
      (try clear v2)
      (try clear v3)
      refine hK.out _ _ (O.sel []) (fun _ => ?_)
      clear hK K
      refine wpAnyH_done (by kernel_rfl) ?_ _
      have cs := O.facts
      try simp only [factsP, cellsP, roomP, foots_cons, foots_nil, foots_append, foot_pt, ptb, ptb_mapA, foot_mapA, factsP_mapA, foot_bun, List.append_nil, List.nil_append, List.cons_append, List.nodup_cons, List.nodup_nil, List.mem_cons, List.not_mem_nil, List.mem_singleton, List.forall_mem_cons, not_or, not_false_eq_true, and_true, true_and, or_false, false_or, forall_eq_or_imp, forall_eq, implies_true, Nat.zero_add, Nat.reduceAdd, and_assoc, ptb_mapA, factsP_bun, ptb_bun, upd_listA, upd_datasA, upd_txA, upd_mapA, upd_bun, upd_fam, ptb_listA, factsP_listA, Nat.mul_one, ptb_datasA, factsP_datasA, ptb_txA, factsP_txA, itCells, ptb_fam, factsP_fam, ptb_learnA, factsP_learnA] at cs
      go_wp2_with fail
      go_ret2
      refine ⟨rfl, ls2, rfl, CLOSE.out { E with ls := ls2, d := dv1 } rfl rfl _ ?_⟩
      simp only [EntM.parts, EntM.cells, List.cons_append, List.nil_append]
      replace O := ((((((((O).front [false, false, false, false, false, false, false, false, true]).front [false, false, false, false, false, false, false, false, true]).front [false, false, false, false, false, false, false, false, true]).front [false, false, false, false, false, false, false, false, true]).front [false, false, false, false, false, false, false, false, false, true]).front [false, false, false, false, false, false, false, false, false, true]).front [false, false, false, false, false, false, false, false, false, true]).front [false, false, false, false, false, false, false, false, false, true]
      simp only [Tk.sel, rst, List.cons_append, List.nil_append] at O
      replace O := O.sel [true, true, true, true, true, true, true, true]
      simp only [Tk.sel] at O
      exact O
end Go.Proofs.Ytplliabmnhigbaa
