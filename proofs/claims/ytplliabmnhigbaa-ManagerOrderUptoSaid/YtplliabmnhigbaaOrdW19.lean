/- WALK: in whatever order a manager hears (ManagerOrder). -/
import Derived.Test.YtplliabmnhigbaaPick19
set_option linter.unusedVariables false
set_option linter.unusedSimpArgs false
namespace Go.Proofs.Ytplliabmnhigbaa
open Go.RowKit Go.WideShapes Go.ChangeShapes Go.Tk
def i64Cells (i : Int) : List Value := [.int .i64 i]
theorem _root_.Go.Tk.Mem.frOver {w w' W : World} {L : List Asn} (O : Mem w [] w' L) (bs : List Bool) (f : Fr (foots (Tk.sel bs L)) w' W) : Fr [] w W :=
  O.fr.trans f (fun b hb => .inr (((O.sel bs).mine b hb).resolve_left (by simp)))
structure OE (t : TxS) (fr : Nat → Nat → Int) (E : EntM) : Prop where
  id : E.id = t.id
  right : E.tx.right = true
  core : E.s.map ItS.core = t.s.map ItS.core
  good : E.good
  kn : Kn E.id E.s (plnOf E.ls) E.d
  ord : Ord E.id E.s fr (plnOf E.ls)
theorem OE.lnok {t : TxS} {fr : Nat → Nat → Int} {E : EntM} (h : OE t fr E) (hnd : (keysOf E.ls).Nodup) : ∀ x ∈ E.ls, LnOk x.2.l := fun x hx => by
  obtain ⟨j, hj⟩ := List.mem_iff_getElem?.1 hx
  have h1 := mget_at hnd (k := x.1) (v := x.2) hj
  have h2 : mget (plnOf E.ls) x.1 = some x.2.l := by rw [mget_pln, h1]; rfl
  exact h.kn.ok _ _ h2
theorem OE.new {t : TxS} {fr : Nat → Nat → Int} {E : EntM} (h : E.new t) (ht : ∃ w, t.At w) (hr : t.r.right = true) : OE t fr E := by
  obtain ⟨w, ht⟩ := ht
  obtain ⟨r1, r2, r3, r4, r5⟩ := TxR.right_parts hr
  have hlen := core_len h.core
  have hok : itemsOk (E.s.map ItS.r) = true := by rw [core_itemsOk h.core]; exact r5
  have h8 : E.s.length ≤ 8 := by rw [hlen]; simpa [TxS.r] using r4
  have h1 : 1 ≤ E.s.length := by rw [hlen]; simpa [TxS.r] using r3
  have hpl : plnOf E.ls = (visits E.id E.s).map (fun v => (v.i, newL 3)) := by rw [h.id]; exact h.ls
  have hk := Kn.zero (id := E.id) hpl h1 hok
  refine ⟨h.id, ?_, h.core, ⟨by rw [h.id]; exact ht.wid, by rw [h.m0]; exact ht.w0, by rw [h.m1]; exact ht.w1, by rw [h.m2]; exact ht.w2, h8, fun x hx => right_bucket hok hx, fun v hv => ?_⟩, by rw [h.d]; exact hk, Ord.zero hpl⟩
  · unfold EntM.tx
    rw [h.id, h.client, h.m0, h.m1, h.m2, core_tx_right (v := .slice t.A t.s.length t.c) h.core]
    exact hr
  · obtain ⟨x, hx, hr', hinc, hi⟩ := visits_mem hv
    have := hk.has v.k v.r x hx hr' hinc
    rw [← hi, mget_pln] at this
    simpa using this
theorem OE.hear {t : TxS} {fr : Nat → Nat → Int} {E : EntM} (h : OE t fr E) {a : Nat} (ha : a / 8 < E.s.length) {x : ItS} (hx : E.s[a / 8]? = some x) (hv : readOf (textOf (fr (a / 8) (a / 2 % 4))) ≠ 0) {ls' : List (Inst × LnM)}
    (hl : plnOf ls' = (E.hears x.bucket ((a / 2 % 4 : Nat) : Int) ((a % 2 : Nat) : Int) noB (textOf (fr (a / 8) (a / 2 % 4)))).2.2.1) :
    OE t fr { E with ls := ls', d := (E.hears x.bucket ((a / 2 % 4 : Nat) : Int) ((a % 2 : Nat) : Int) noB (textOf (fr (a / 8) (a / 2 % 4)))).2.2.2 } ∧
    ∀ m, Heared E.id E.s fr (plnOf E.ls) m → Heared E.id E.s fr (plnOf ls') m ∧ (m = a → Heared E.id E.s fr (plnOf ls') (m + 1)) := by
  have hh : E.hears x.bucket ((a / 2 % 4 : Nat) : Int) ((a % 2 : Nat) : Int) noB (textOf (fr (a / 8) (a / 2 % 4))) = hear11 true E.id E.s (plnOf E.ls) E.d x.bucket ((a / 2 % 4 : Nat) : Int) ((a % 2 : Nat) : Int) noB (textOf (fr (a / 8) (a / 2 % 4))) := by
    unfold EntM.hears
    rw [h.right]
  rw [hh] at hl ⊢
  obtain ⟨k1, _⟩ := h.kn.hear x.bucket ((a / 2 % 4 : Nat) : Int) ((a % 2 : Nat) : Int) noB (textOf (fr (a / 8) (a / 2 % 4)))
  obtain ⟨o1, o2⟩ := h.ord.hear h.kn ha hx hv
  rw [← hl] at k1 o1 o2
  refine ⟨⟨h.id, h.right, h.core, ⟨h.good.id, h.good.m0, h.good.m1, h.good.m2, h.good.len, h.good.bk, fun v hv => ?_⟩, k1, o1⟩, o2⟩
  obtain ⟨y, hy, hr', hinc, hi⟩ := visits_mem hv
  have := k1.has v.k v.r y hy hr' hinc
  rw [← hi, mget_pln] at this
  simpa using this
theorem heared_skip {id : Int} {s : List ItS} {fr : Nat → Nat → Int} {pls : List (Inst × Learn11)} {a : Nat} (hv : readOf (textOf (fr (a / 8) (a / 2 % 4))) = 0) (h : Heared id s fr pls a) : Heared id s fr pls (a + 1) := fun p hp x l hx hinc hrd hl => by
  by_cases hpa : p < a
  · exact h p hpa x l hx hinc hrd hl
  · obtain rfl : p = a := by omega
    exact absurd hv hrd
theorem heared_next {P Q : Nat → Prop} {a k N8 : Nat} (h : ∀ m, P m → Q m ∧ (m = a → Q (m + 1))) (hP : P (min k N8)) (hN : 0 < N8) (ha : a = k % N8) : Q (min (k + 1) N8) := by
  by_cases hk : k < N8
  · have e : k % N8 = k := Nat.mod_eq_of_lt hk
    rw [Nat.min_eq_left (by omega)] at hP ⊢
    exact (h k hP).2 (by rw [ha, e])
  · rw [Nat.min_eq_right (by omega)] at hP ⊢
    exact (h _ hP).1
theorem votes_cell {w W : World} {b off : Nat} {f : Nat → Int} (hb : b < w.heap.size) (h : w.cell? ⟨b, off, none⟩ = some (.int .i64 (f 0)) ∧ w.cell? ⟨b, off + 1, none⟩ = some (.int .i64 (f 1)) ∧ w.cell? ⟨b, off + 2, none⟩ = some (.int .i64 (f 2)) ∧ w.cell? ⟨b, off + 3, none⟩ = some (.int .i64 (f 3))) {r : Nat} (hr : r < 4) (fr : Fr [] w W) : roomP b W.heap.size ∧ W.cell? ⟨b, off + r, none⟩ = some (.int .i64 (f r)) := by
  refine ⟨roomP_of (Nat.lt_of_lt_of_le hb fr.size), (fr.cell hb).trans ?_⟩
  have hc : r = 0 ∨ r = 1 ∨ r = 2 ∨ r = 3 := by omega
  rcases hc with rfl | rfl | rfl | rfl
  · exact h.1
  · exact h.2.1
  · exact h.2.2.1
  · exact h.2.2.2
theorem wrapN {m : Nat} (h : m < 1000000) : IntKind.i64.wrap (m : Int) = m := by simp [IntKind.wrap, IntKind.signed, IntKind.bits]; omega
set_option maxRecDepth 100000 in
set_option maxHeartbeats 16000000 in
theorem order_walk (w : World) (t : TxS) (ht : t.At w) (V2 : Value) (n : Nat) (fr : Nat → Nat → Int) (hv : Votes w V2 n fr) (V3 : Value) (ord : List Int) (ho : ArgList w 1 i64Cells V3 ord) (hob : ∀ x ∈ ord, inI64 x) :
    Calls Try.prog 3 #[t.val, V2, V3] w (fun e w' => e = .returned (.bool true) ∧ Below w.heap.size w w') := by
  obtain ⟨hlen0, SA, sc, rfl, hlat⟩ := ho
  have HC := Lib.hid hlat
  have HO := Lib.hid hob
  have HT := Lib.hid ht
  have HV := Lib.hid hv
  obtain ⟨hn0, VA, vc, rfl, hvat⟩ := hv
  have HVA := Lib.hid hvat
  have CRR := Lib.hid (fun W (f : Fr [] w W) => q_rRight W t (HT.out.fr f))
  have CDD := Lib.hid (fun W (f : Fr [] w W) => q_rDecide W t (HT.out.fr f) _ n fr (HV.out.fr f))
  clear hlat hob ht hvat
  have O : Mem w [] w [] := Mem.begin
  have HSL : Hid (t.s.length ≤ 1048576) := Lib.hid HT.out.len
  generalize hrt : t.r.right = rt at CRR CDD
  have HRT := Lib.hid hrt
  clear hrt
  obtain ⟨tid, tcl, t0, t1, t2, tA, tc, ts⟩ := t
  simp only [TxS.val] at CRR CDD ⊢
  simp only at HSL
  obtain ⟨N, hN⟩ : ∃ N, ts.length = N := ⟨_, rfl⟩
  rw [hN] at CRR CDD HSL ⊢
  have HN := Lib.hid hN
  clear hN
  by_cases hgood : rt = true ∧ n = N
  case neg =>
    have hb : (!rt || ((n : Int) != (N : Int))) = true := by
      cases rt
      · rfl
      · simp at hgood ⊢
        omega
    skip
    go_enter Try.func3, Try.ntmps3
    have cs := O.facts
    try simp only [factsP, cellsP, roomP, foots_cons, foots_nil, foots_append, foot_pt, ptb, ptb_mapA, foot_mapA, factsP_mapA, foot_bun, List.append_nil, List.nil_append, List.cons_append, List.nodup_cons, List.nodup_nil, List.mem_cons, List.not_mem_nil, List.mem_singleton, List.forall_mem_cons, not_or, not_false_eq_true, and_true, true_and, or_false, false_or, forall_eq_or_imp, forall_eq, implies_true, Nat.zero_add, Nat.reduceAdd, and_assoc, ptb_mapA, factsP_bun, ptb_bun, upd_listA, upd_mapA, upd_bun, upd_fam, ptb_listA, factsP_listA, Nat.mul_one, ptb_fam, factsP_fam] at cs
    go_upto_region 1 with fail
    first | apply Mem.atCall | apply Mem.atCode | apply Mem.atList
    case h => repeat' (first | (with_reducible exact O) | (with_reducible apply Mem.drew) | (with_reducible apply Mem.drewN) | (with_reducible apply Mem.ext) | (with_reducible apply Mem.alloc) | (with_reducible apply Mem.setCell) | (simp only [ptb, ptb_upd, foots_cons, List.mem_cons, World.size_alloc, size_ext, World.size_setCell, true_or, or_true, eq_self_iff_true, ptb_mapA, ptb_bun, ptb_listA, ptb_fam]))
    case' k =>
      intro w1 O'
      (try clear O)
      have O := O'
      clear O'
      (first | simp only [sel, rst, List.cons_append, List.nil_append, World.size_alloc, size_ext, World.size_setCell, size_setMap, World.size_drew, size_drewN, upd, List.set_cons_zero, List.set_cons_succ, if_true, if_false, reduceIte, not_false_eq_true, ne_lt0, ne_lt1, ne_lt2, ne_lt3, ne_lt4, upd_listA, upd_mapA, upd_bun, upd_fam, cs] at O | simp only [sel, rst, List.cons_append, List.nil_append, World.size_alloc, size_ext, World.size_setCell, size_setMap, World.size_drew, size_drewN, upd, List.set_cons_zero, List.set_cons_succ, if_true, if_false, reduceIte, not_false_eq_true, ne_lt0, ne_lt1, ne_lt2, ne_lt3, ne_lt4, upd_listA, upd_mapA, upd_bun, upd_fam] at O | skip)
      (try clear cs)
      (try clear v1)
      (try clear v2)
      (try clear v3)
    generalize w.heap.size = tb at O ⊢
    have cs := O.facts
    try simp only [factsP, cellsP, roomP, foots_cons, foots_nil, foots_append, foot_pt, ptb, ptb_mapA, foot_mapA, factsP_mapA, foot_bun, List.append_nil, List.nil_append, List.cons_append, List.nodup_cons, List.nodup_nil, List.mem_cons, List.not_mem_nil, List.mem_singleton, List.forall_mem_cons, not_or, not_false_eq_true, and_true, true_and, or_false, false_or, forall_eq_or_imp, forall_eq, implies_true, Nat.zero_add, Nat.reduceAdd, and_assoc, ptb_mapA, factsP_bun, ptb_bun, upd_listA, upd_mapA, upd_bun, upd_fam, ptb_listA, factsP_listA, Nat.mul_one, ptb_fam, factsP_fam] at cs
    go_wp2_with fail
    refine (m_New w1).mono ?_
    rintro e w2 ⟨mb, mp, rfl, o⟩
    replace O := O.callp [] o
    clear o
    simp only [mgrL, put, List.cons_append, List.nil_append, List.map_nil, List.length_nil] at O
    have cs := O.facts
    try simp only [factsP, cellsP, roomP, foots_cons, foots_nil, foots_append, foot_pt, ptb, ptb_mapA, foot_mapA, factsP_mapA, foot_bun, List.append_nil, List.nil_append, List.cons_append, List.nodup_cons, List.nodup_nil, List.mem_cons, List.not_mem_nil, List.mem_singleton, List.forall_mem_cons, not_or, not_false_eq_true, and_true, true_and, or_false, false_or, forall_eq_or_imp, forall_eq, implies_true, Nat.zero_add, Nat.reduceAdd, and_assoc, ptb_mapA, factsP_bun, ptb_bun, upd_listA, upd_mapA, upd_bun, upd_fam, ptb_listA, factsP_listA, Nat.mul_one, ptb_fam, factsP_fam] at cs
    go_wp2_with fail
    first | apply Mem.atCall | apply Mem.atCode | apply Mem.atList
    case h => repeat' (first | (with_reducible exact O) | (with_reducible apply Mem.drew) | (with_reducible apply Mem.drewN) | (with_reducible apply Mem.ext) | (with_reducible apply Mem.alloc) | (with_reducible apply Mem.setCell) | (simp only [ptb, ptb_upd, foots_cons, List.mem_cons, World.size_alloc, size_ext, World.size_setCell, true_or, or_true, eq_self_iff_true, ptb_mapA, ptb_bun, ptb_listA, ptb_fam]))
    case' k =>
      intro w3 O'
      (try clear O)
      have O := O'
      clear O'
      (first | simp only [sel, rst, List.cons_append, List.nil_append, World.size_alloc, size_ext, World.size_setCell, size_setMap, World.size_drew, size_drewN, upd, List.set_cons_zero, List.set_cons_succ, if_true, if_false, reduceIte, not_false_eq_true, ne_lt0, ne_lt1, ne_lt2, ne_lt3, ne_lt4, upd_listA, upd_mapA, upd_bun, upd_fam, cs] at O | simp only [sel, rst, List.cons_append, List.nil_append, World.size_alloc, size_ext, World.size_setCell, size_setMap, World.size_drew, size_drewN, upd, List.set_cons_zero, List.set_cons_succ, if_true, if_false, reduceIte, not_false_eq_true, ne_lt0, ne_lt1, ne_lt2, ne_lt3, ne_lt4, upd_listA, upd_mapA, upd_bun, upd_fam] at O | skip)
      (try clear cs)
      (try clear v1)
      (try clear v2)
      (try clear v3)
    refine (CRR.out _ O.fr).mono ?_
    rintro e w4 ⟨rfl, o⟩
    replace O := O.callp [] o
    clear o
    simp only [put, List.cons_append, List.nil_append] at O
    have cs := O.facts
    try simp only [factsP, cellsP, roomP, foots_cons, foots_nil, foots_append, foot_pt, ptb, ptb_mapA, foot_mapA, factsP_mapA, foot_bun, List.append_nil, List.nil_append, List.cons_append, List.nodup_cons, List.nodup_nil, List.mem_cons, List.not_mem_nil, List.mem_singleton, List.forall_mem_cons, not_or, not_false_eq_true, and_true, true_and, or_false, false_or, forall_eq_or_imp, forall_eq, implies_true, Nat.zero_add, Nat.reduceAdd, and_assoc, ptb_mapA, factsP_bun, ptb_bun, upd_listA, upd_mapA, upd_bun, upd_fam, ptb_listA, factsP_listA, Nat.mul_one, ptb_fam, factsP_fam] at cs
    go_wp2_with fail
    first | apply Mem.atCall | apply Mem.atCode | apply Mem.atList
    case h => repeat' (first | (with_reducible exact O) | (with_reducible apply Mem.drew) | (with_reducible apply Mem.drewN) | (with_reducible apply Mem.ext) | (with_reducible apply Mem.alloc) | (with_reducible apply Mem.setCell) | (simp only [ptb, ptb_upd, foots_cons, List.mem_cons, World.size_alloc, size_ext, World.size_setCell, true_or, or_true, eq_self_iff_true, ptb_mapA, ptb_bun, ptb_listA, ptb_fam]))
    case' k =>
      intro w5 O'
      (try clear O)
      have O := O'
      clear O'
      (first | simp only [sel, rst, List.cons_append, List.nil_append, World.size_alloc, size_ext, World.size_setCell, size_setMap, World.size_drew, size_drewN, upd, List.set_cons_zero, List.set_cons_succ, if_true, if_false, reduceIte, not_false_eq_true, ne_lt0, ne_lt1, ne_lt2, ne_lt3, ne_lt4, upd_listA, upd_mapA, upd_bun, upd_fam, cs] at O | simp only [sel, rst, List.cons_append, List.nil_append, World.size_alloc, size_ext, World.size_setCell, size_setMap, World.size_drew, size_drewN, upd, List.set_cons_zero, List.set_cons_succ, if_true, if_false, reduceIte, not_false_eq_true, ne_lt0, ne_lt1, ne_lt2, ne_lt3, ne_lt4, upd_listA, upd_mapA, upd_bun, upd_fam] at O | skip)
      (try clear cs)
      (try clear v1)
      (try clear v2)
      (try clear v3)
    refine (law_alive19 _).mono ?_
    rintro e w6 ⟨rfl, o⟩
    replace O := O.callp [] o
    clear o
    simp only [put, List.cons_append, List.nil_append] at O
    cases rt
    · have cs := O.facts
      try simp only [factsP, cellsP, roomP, foots_cons, foots_nil, foots_append, foot_pt, ptb, ptb_mapA, foot_mapA, factsP_mapA, foot_bun, List.append_nil, List.nil_append, List.cons_append, List.nodup_cons, List.nodup_nil, List.mem_cons, List.not_mem_nil, List.mem_singleton, List.forall_mem_cons, not_or, not_false_eq_true, and_true, true_and, or_false, false_or, forall_eq_or_imp, forall_eq, implies_true, Nat.zero_add, Nat.reduceAdd, and_assoc, ptb_mapA, factsP_bun, ptb_bun, upd_listA, upd_mapA, upd_bun, upd_fam, ptb_listA, factsP_listA, Nat.mul_one, ptb_fam, factsP_fam] at cs
      go_wp2_with fail
      first | apply Mem.atCall | apply Mem.atCode | apply Mem.atList
      case h => repeat' (first | (with_reducible exact O) | (with_reducible apply Mem.drew) | (with_reducible apply Mem.drewN) | (with_reducible apply Mem.ext) | (with_reducible apply Mem.alloc) | (with_reducible apply Mem.setCell) | (simp only [ptb, ptb_upd, foots_cons, List.mem_cons, World.size_alloc, size_ext, World.size_setCell, true_or, or_true, eq_self_iff_true, ptb_mapA, ptb_bun, ptb_listA, ptb_fam]))
      case' k =>
        intro w7 O'
        (try clear O)
        have O := O'
        clear O'
        (first | simp only [sel, rst, List.cons_append, List.nil_append, World.size_alloc, size_ext, World.size_setCell, size_setMap, World.size_drew, size_drewN, upd, List.set_cons_zero, List.set_cons_succ, if_true, if_false, reduceIte, not_false_eq_true, ne_lt0, ne_lt1, ne_lt2, ne_lt3, ne_lt4, upd_listA, upd_mapA, upd_bun, upd_fam, cs] at O | simp only [sel, rst, List.cons_append, List.nil_append, World.size_alloc, size_ext, World.size_setCell, size_setMap, World.size_drew, size_drewN, upd, List.set_cons_zero, List.set_cons_succ, if_true, if_false, reduceIte, not_false_eq_true, ne_lt0, ne_lt1, ne_lt2, ne_lt3, ne_lt4, upd_listA, upd_mapA, upd_bun, upd_fam] at O | skip)
        (try clear cs)
        (try clear v1)
        (try clear v2)
        (try clear v3)
      refine (law_alive19 _).mono ?_
      rintro e w8 ⟨rfl, o⟩
      replace O := O.callp [] o
      clear o
      simp only [put, List.cons_append, List.nil_append] at O
      have cs := O.facts
      try simp only [factsP, cellsP, roomP, foots_cons, foots_nil, foots_append, foot_pt, ptb, ptb_mapA, foot_mapA, factsP_mapA, foot_bun, List.append_nil, List.nil_append, List.cons_append, List.nodup_cons, List.nodup_nil, List.mem_cons, List.not_mem_nil, List.mem_singleton, List.forall_mem_cons, not_or, not_false_eq_true, and_true, true_and, or_false, false_or, forall_eq_or_imp, forall_eq, implies_true, Nat.zero_add, Nat.reduceAdd, and_assoc, ptb_mapA, factsP_bun, ptb_bun, upd_listA, upd_mapA, upd_bun, upd_fam, ptb_listA, factsP_listA, Nat.mul_one, ptb_fam, factsP_fam] at cs
      go_wp2_with fail
      go_ret
      exact ⟨rfl, O.fr0.fr.below rfl⟩
    · have hne : ¬ (n : Int) = (N : Int) := by simp at hgood; omega
      have hne2 : ((n : Int) == (N : Int)) = false := by simpa using hne
      have hne3 : ((n : Int) != (N : Int)) = true := by simpa using hne
      clear hb hgood
      have cs := O.facts
      try simp only [factsP, cellsP, roomP, foots_cons, foots_nil, foots_append, foot_pt, ptb, ptb_mapA, foot_mapA, factsP_mapA, foot_bun, List.append_nil, List.nil_append, List.cons_append, List.nodup_cons, List.nodup_nil, List.mem_cons, List.not_mem_nil, List.mem_singleton, List.forall_mem_cons, not_or, not_false_eq_true, and_true, true_and, or_false, false_or, forall_eq_or_imp, forall_eq, implies_true, Nat.zero_add, Nat.reduceAdd, and_assoc, ptb_mapA, factsP_bun, ptb_bun, upd_listA, upd_mapA, upd_bun, upd_fam, ptb_listA, factsP_listA, Nat.mul_one, ptb_fam, factsP_fam] at cs
      go_wp2_with fail
      first | apply Mem.atCall | apply Mem.atCode | apply Mem.atList
      case h => repeat' (first | (with_reducible exact O) | (with_reducible apply Mem.drew) | (with_reducible apply Mem.drewN) | (with_reducible apply Mem.ext) | (with_reducible apply Mem.alloc) | (with_reducible apply Mem.setCell) | (simp only [ptb, ptb_upd, foots_cons, List.mem_cons, World.size_alloc, size_ext, World.size_setCell, true_or, or_true, eq_self_iff_true, ptb_mapA, ptb_bun, ptb_listA, ptb_fam]))
      case' k =>
        intro w7 O'
        (try clear O)
        have O := O'
        clear O'
        (first | simp only [sel, rst, List.cons_append, List.nil_append, World.size_alloc, size_ext, World.size_setCell, size_setMap, World.size_drew, size_drewN, upd, List.set_cons_zero, List.set_cons_succ, if_true, if_false, reduceIte, not_false_eq_true, ne_lt0, ne_lt1, ne_lt2, ne_lt3, ne_lt4, upd_listA, upd_mapA, upd_bun, upd_fam, cs] at O | simp only [sel, rst, List.cons_append, List.nil_append, World.size_alloc, size_ext, World.size_setCell, size_setMap, World.size_drew, size_drewN, upd, List.set_cons_zero, List.set_cons_succ, if_true, if_false, reduceIte, not_false_eq_true, ne_lt0, ne_lt1, ne_lt2, ne_lt3, ne_lt4, upd_listA, upd_mapA, upd_bun, upd_fam] at O | skip)
        (try clear cs)
        (try clear v1)
        (try clear v2)
        (try clear v3)
      refine (law_alive19 _).mono ?_
      rintro e w8 ⟨rfl, o⟩
      replace O := O.callp [] o
      clear o
      simp only [put, List.cons_append, List.nil_append] at O
      have cs := O.facts
      try simp only [factsP, cellsP, roomP, foots_cons, foots_nil, foots_append, foot_pt, ptb, ptb_mapA, foot_mapA, factsP_mapA, foot_bun, List.append_nil, List.nil_append, List.cons_append, List.nodup_cons, List.nodup_nil, List.mem_cons, List.not_mem_nil, List.mem_singleton, List.forall_mem_cons, not_or, not_false_eq_true, and_true, true_and, or_false, false_or, forall_eq_or_imp, forall_eq, implies_true, Nat.zero_add, Nat.reduceAdd, and_assoc, ptb_mapA, factsP_bun, ptb_bun, upd_listA, upd_mapA, upd_bun, upd_fam, ptb_listA, factsP_listA, Nat.mul_one, ptb_fam, factsP_fam] at cs
      go_wp2_with fail
      go_ret
      exact ⟨rfl, O.fr0.fr.below rfl⟩
  case pos =>
    obtain ⟨rfl, rfl⟩ := hgood
    skip
    go_enter Try.func3, Try.ntmps3
    have cs := O.facts
    try simp only [factsP, cellsP, roomP, foots_cons, foots_nil, foots_append, foot_pt, ptb, ptb_mapA, foot_mapA, factsP_mapA, foot_bun, List.append_nil, List.nil_append, List.cons_append, List.nodup_cons, List.nodup_nil, List.mem_cons, List.not_mem_nil, List.mem_singleton, List.forall_mem_cons, not_or, not_false_eq_true, and_true, true_and, or_false, false_or, forall_eq_or_imp, forall_eq, implies_true, Nat.zero_add, Nat.reduceAdd, and_assoc, ptb_mapA, factsP_bun, ptb_bun, upd_listA, upd_mapA, upd_bun, upd_fam, ptb_listA, factsP_listA, Nat.mul_one, ptb_fam, factsP_fam] at cs
    go_upto_region 1 with fail
    first | apply Mem.atCall | apply Mem.atCode | apply Mem.atList
    case h => repeat' (first | (with_reducible exact O) | (with_reducible apply Mem.drew) | (with_reducible apply Mem.drewN) | (with_reducible apply Mem.ext) | (with_reducible apply Mem.alloc) | (with_reducible apply Mem.setCell) | (simp only [ptb, ptb_upd, foots_cons, List.mem_cons, World.size_alloc, size_ext, World.size_setCell, true_or, or_true, eq_self_iff_true, ptb_mapA, ptb_bun, ptb_listA, ptb_fam]))
    case' k =>
      intro w1 O'
      (try clear O)
      have O := O'
      clear O'
      (first | simp only [sel, rst, List.cons_append, List.nil_append, World.size_alloc, size_ext, World.size_setCell, size_setMap, World.size_drew, size_drewN, upd, List.set_cons_zero, List.set_cons_succ, if_true, if_false, reduceIte, not_false_eq_true, ne_lt0, ne_lt1, ne_lt2, ne_lt3, ne_lt4, upd_listA, upd_mapA, upd_bun, upd_fam, cs] at O | simp only [sel, rst, List.cons_append, List.nil_append, World.size_alloc, size_ext, World.size_setCell, size_setMap, World.size_drew, size_drewN, upd, List.set_cons_zero, List.set_cons_succ, if_true, if_false, reduceIte, not_false_eq_true, ne_lt0, ne_lt1, ne_lt2, ne_lt3, ne_lt4, upd_listA, upd_mapA, upd_bun, upd_fam] at O | skip)
      (try clear cs)
      (try clear v1)
      (try clear v2)
      (try clear v3)
    generalize w.heap.size = tb at O ⊢
    have cs := O.facts
    try simp only [factsP, cellsP, roomP, foots_cons, foots_nil, foots_append, foot_pt, ptb, ptb_mapA, foot_mapA, factsP_mapA, foot_bun, List.append_nil, List.nil_append, List.cons_append, List.nodup_cons, List.nodup_nil, List.mem_cons, List.not_mem_nil, List.mem_singleton, List.forall_mem_cons, not_or, not_false_eq_true, and_true, true_and, or_false, false_or, forall_eq_or_imp, forall_eq, implies_true, Nat.zero_add, Nat.reduceAdd, and_assoc, ptb_mapA, factsP_bun, ptb_bun, upd_listA, upd_mapA, upd_bun, upd_fam, ptb_listA, factsP_listA, Nat.mul_one, ptb_fam, factsP_fam] at cs
    go_wp2_with fail
    refine (m_New w1).mono ?_
    rintro e w2 ⟨mb, mp, rfl, o⟩
    replace O := O.callp [] o
    clear o
    simp only [mgrL, put, List.cons_append, List.nil_append, List.map_nil, List.length_nil] at O
    have cs := O.facts
    try simp only [factsP, cellsP, roomP, foots_cons, foots_nil, foots_append, foot_pt, ptb, ptb_mapA, foot_mapA, factsP_mapA, foot_bun, List.append_nil, List.nil_append, List.cons_append, List.nodup_cons, List.nodup_nil, List.mem_cons, List.not_mem_nil, List.mem_singleton, List.forall_mem_cons, not_or, not_false_eq_true, and_true, true_and, or_false, false_or, forall_eq_or_imp, forall_eq, implies_true, Nat.zero_add, Nat.reduceAdd, and_assoc, ptb_mapA, factsP_bun, ptb_bun, upd_listA, upd_mapA, upd_bun, upd_fam, ptb_listA, factsP_listA, Nat.mul_one, ptb_fam, factsP_fam] at cs
    go_wp2_with fail
    first | apply Mem.atCall | apply Mem.atCode | apply Mem.atList
    case h => repeat' (first | (with_reducible exact O) | (with_reducible apply Mem.drew) | (with_reducible apply Mem.drewN) | (with_reducible apply Mem.ext) | (with_reducible apply Mem.alloc) | (with_reducible apply Mem.setCell) | (simp only [ptb, ptb_upd, foots_cons, List.mem_cons, World.size_alloc, size_ext, World.size_setCell, true_or, or_true, eq_self_iff_true, ptb_mapA, ptb_bun, ptb_listA, ptb_fam]))
    case' k =>
      intro w3 O'
      (try clear O)
      have O := O'
      clear O'
      (first | simp only [sel, rst, List.cons_append, List.nil_append, World.size_alloc, size_ext, World.size_setCell, size_setMap, World.size_drew, size_drewN, upd, List.set_cons_zero, List.set_cons_succ, if_true, if_false, reduceIte, not_false_eq_true, ne_lt0, ne_lt1, ne_lt2, ne_lt3, ne_lt4, upd_listA, upd_mapA, upd_bun, upd_fam, cs] at O | simp only [sel, rst, List.cons_append, List.nil_append, World.size_alloc, size_ext, World.size_setCell, size_setMap, World.size_drew, size_drewN, upd, List.set_cons_zero, List.set_cons_succ, if_true, if_false, reduceIte, not_false_eq_true, ne_lt0, ne_lt1, ne_lt2, ne_lt3, ne_lt4, upd_listA, upd_mapA, upd_bun, upd_fam] at O | skip)
      (try clear cs)
      (try clear v1)
      (try clear v2)
      (try clear v3)
    refine (CRR.out _ O.fr).mono ?_
    rintro e w4 ⟨rfl, o⟩
    replace O := O.callp [] o
    clear o
    simp only [put, List.cons_append, List.nil_append] at O
    have cs := O.facts
    try simp only [factsP, cellsP, roomP, foots_cons, foots_nil, foots_append, foot_pt, ptb, ptb_mapA, foot_mapA, factsP_mapA, foot_bun, List.append_nil, List.nil_append, List.cons_append, List.nodup_cons, List.nodup_nil, List.mem_cons, List.not_mem_nil, List.mem_singleton, List.forall_mem_cons, not_or, not_false_eq_true, and_true, true_and, or_false, false_or, forall_eq_or_imp, forall_eq, implies_true, Nat.zero_add, Nat.reduceAdd, and_assoc, ptb_mapA, factsP_bun, ptb_bun, upd_listA, upd_mapA, upd_bun, upd_fam, ptb_listA, factsP_listA, Nat.mul_one, ptb_fam, factsP_fam] at cs
    go_wp2_with fail
    first | apply Mem.atCall | apply Mem.atCode | apply Mem.atList
    case h => repeat' (first | (with_reducible exact O) | (with_reducible apply Mem.drew) | (with_reducible apply Mem.drewN) | (with_reducible apply Mem.ext) | (with_reducible apply Mem.alloc) | (with_reducible apply Mem.setCell) | (simp only [ptb, ptb_upd, foots_cons, List.mem_cons, World.size_alloc, size_ext, World.size_setCell, true_or, or_true, eq_self_iff_true, ptb_mapA, ptb_bun, ptb_listA, ptb_fam]))
    case' k =>
      intro w5 O'
      (try clear O)
      have O := O'
      clear O'
      (first | simp only [sel, rst, List.cons_append, List.nil_append, World.size_alloc, size_ext, World.size_setCell, size_setMap, World.size_drew, size_drewN, upd, List.set_cons_zero, List.set_cons_succ, if_true, if_false, reduceIte, not_false_eq_true, ne_lt0, ne_lt1, ne_lt2, ne_lt3, ne_lt4, upd_listA, upd_mapA, upd_bun, upd_fam, cs] at O | simp only [sel, rst, List.cons_append, List.nil_append, World.size_alloc, size_ext, World.size_setCell, size_setMap, World.size_drew, size_drewN, upd, List.set_cons_zero, List.set_cons_succ, if_true, if_false, reduceIte, not_false_eq_true, ne_lt0, ne_lt1, ne_lt2, ne_lt3, ne_lt4, upd_listA, upd_mapA, upd_bun, upd_fam] at O | skip)
      (try clear cs)
      (try clear v1)
      (try clear v2)
      (try clear v3)
    refine (law_alive19 _).mono ?_
    rintro e w6 ⟨rfl, o⟩
    replace O := O.callp [] o
    clear o
    simp only [put, List.cons_append, List.nil_append] at O
    have cs := O.facts
    try simp only [factsP, cellsP, roomP, foots_cons, foots_nil, foots_append, foot_pt, ptb, ptb_mapA, foot_mapA, factsP_mapA, foot_bun, List.append_nil, List.nil_append, List.cons_append, List.nodup_cons, List.nodup_nil, List.mem_cons, List.not_mem_nil, List.mem_singleton, List.forall_mem_cons, not_or, not_false_eq_true, and_true, true_and, or_false, false_or, forall_eq_or_imp, forall_eq, implies_true, Nat.zero_add, Nat.reduceAdd, and_assoc, ptb_mapA, factsP_bun, ptb_bun, upd_listA, upd_mapA, upd_bun, upd_fam, ptb_listA, factsP_listA, Nat.mul_one, ptb_fam, factsP_fam] at cs
    go_wp2_with fail
    first | apply Mem.atCall | apply Mem.atCode | apply Mem.atList
    case h => repeat' (first | (with_reducible exact O) | (with_reducible apply Mem.drew) | (with_reducible apply Mem.drewN) | (with_reducible apply Mem.ext) | (with_reducible apply Mem.alloc) | (with_reducible apply Mem.setCell) | (simp only [ptb, ptb_upd, foots_cons, List.mem_cons, World.size_alloc, size_ext, World.size_setCell, true_or, or_true, eq_self_iff_true, ptb_mapA, ptb_bun, ptb_listA, ptb_fam]))
    case' k =>
      intro w7 O'
      (try clear O)
      have O := O'
      clear O'
      (first | simp only [sel, rst, List.cons_append, List.nil_append, World.size_alloc, size_ext, World.size_setCell, size_setMap, World.size_drew, size_drewN, upd, List.set_cons_zero, List.set_cons_succ, if_true, if_false, reduceIte, not_false_eq_true, ne_lt0, ne_lt1, ne_lt2, ne_lt3, ne_lt4, upd_listA, upd_mapA, upd_bun, upd_fam, cs] at O | simp only [sel, rst, List.cons_append, List.nil_append, World.size_alloc, size_ext, World.size_setCell, size_setMap, World.size_drew, size_drewN, upd, List.set_cons_zero, List.set_cons_succ, if_true, if_false, reduceIte, not_false_eq_true, ne_lt0, ne_lt1, ne_lt2, ne_lt3, ne_lt4, upd_listA, upd_mapA, upd_bun, upd_fam] at O | skip)
      (try clear cs)
      (try clear v1)
      (try clear v2)
      (try clear v3)
    have hts : ∀ W, Fr (foots (mgrL mb mp none 0 [])) w7 W → (TxS.mk tid tcl t0 t1 t2 tA tc ts).At W := fun W f => HT.out.fr (O.frOver [true, true, true, true] f)
    refine (Calls.mono (h := by
      have := m_Know_new w7 mb mp none 0 [] (TxS.mk tid tcl t0 t1 t2 tA tc ts) (O.pre [true, true, true, true]) hts HRT.out (by simp) (by simp)
      simp only [TxS.val, HN.out] at this
      exact this)) ?_
    rintro e w8 ⟨rfl, OA, oc, E, hE, o⟩
    replace O := O.call [true, true, true, true] o
    clear o hts
    replace O : Mem w [] w8 (mgrL mb mp OA oc [E] ++ [.pt tb [.int .u64 tid, .int .i64 tcl, .int .i64 t0, .int .i64 t1, .int .i64 t2, .slice tA n tc] 26]) := O
    simp only [mgrL, List.cons_append, List.nil_append] at O
    have HOE0 := Lib.hid (OE.new (fr := fr) hE ⟨w, HT.out⟩ HRT.out)
    clear hE
    have hnb : 1 ≤ n ∧ n ≤ 8 := by
      obtain ⟨_, _, r3, r4, _⟩ := TxR.right_parts HRT.out
      have e : (TxS.mk tid tcl t0 t1 t2 tA tc ts).r.items.length = ts.length := by simp [TxS.r]
      rw [e, HN.out] at r3 r4
      exact ⟨r3, r4⟩
    obtain ⟨hn1, hn8⟩ := hnb
    obtain ⟨N8, hN8⟩ : ∃ N8, N8 = 8 * n := ⟨_, rfl⟩
    obtain ⟨M, hM⟩ : ∃ M, M = 4 * N8 := ⟨_, rfl⟩
    have e9 : IntKind.i64.wrap (8 * (n : Int)) = (N8 : Int) := by rw [hN8]; simp [IntKind.wrap, IntKind.signed, IntKind.bits]; omega
    have e8 : IntKind.i64.wrap (4 * (N8 : Int)) = (M : Int) := by rw [hM]; simp [IntKind.wrap, IntKind.signed, IntKind.bits]; omega
    have hN0 : ¬ (N8 : Int) = 0 := by omega
    have hN0' : ((N8 : Int) == 0) = false := by simpa using hN0
    have cs := O.facts
    try simp only [factsP, cellsP, roomP, foots_cons, foots_nil, foots_append, foot_pt, ptb, ptb_mapA, foot_mapA, factsP_mapA, foot_bun, List.append_nil, List.nil_append, List.cons_append, List.nodup_cons, List.nodup_nil, List.mem_cons, List.not_mem_nil, List.mem_singleton, List.forall_mem_cons, not_or, not_false_eq_true, and_true, true_and, or_false, false_or, forall_eq_or_imp, forall_eq, implies_true, Nat.zero_add, Nat.reduceAdd, and_assoc, ptb_mapA, factsP_bun, ptb_bun, upd_listA, upd_mapA, upd_bun, upd_fam, ptb_listA, factsP_listA, Nat.mul_one, ptb_fam, factsP_fam] at cs
    go_wp2_with fail
    clear cs
    go_loopw [10] (fun s10 wr => ∃ (turn : Nat) (E : EntM), turn ≤ 2 ∧ s10 = .int .i64 turn ∧ Mem w [] wr (mgrL mb mp OA oc [E] ++ [.pt tb [.int .u64 tid, .int .i64 tcl, .int .i64 t0, .int .i64 t1, .int .i64 t2, .slice tA n tc] 26]) ∧ Hid (OE ⟨tid, tcl, t0, t1, t2, tA, tc, ts⟩ fr E ∧ (turn = 2 → Heared E.id E.s fr (plnOf E.ls) N8))) (fun s10 _ => 2 - (intOf s10).toNat)
    case atStart => exact ⟨0, E, by omega, rfl, O, Lib.hid ⟨HOE0.out, fun h => by omega⟩⟩
    case round =>
      clear O HOE0 E
      obtain ⟨turn, E, htn, rfl, O, HI⟩ := hrel
      by_cases ht2 : turn < 2
      · have ht2i : (turn : Int) < 2 := by omega
        skip
        simp only [mgrL, List.cons_append, List.nil_append] at O
        have cs := O.facts
        try simp only [factsP, cellsP, roomP, foots_cons, foots_nil, foots_append, foot_pt, ptb, ptb_mapA, foot_mapA, factsP_mapA, foot_bun, List.append_nil, List.nil_append, List.cons_append, List.nodup_cons, List.nodup_nil, List.mem_cons, List.not_mem_nil, List.mem_singleton, List.forall_mem_cons, not_or, not_false_eq_true, and_true, true_and, or_false, false_or, forall_eq_or_imp, forall_eq, implies_true, Nat.zero_add, Nat.reduceAdd, and_assoc, ptb_mapA, factsP_bun, ptb_bun, upd_listA, upd_mapA, upd_bun, upd_fam, ptb_listA, factsP_listA, Nat.mul_one, ptb_fam, factsP_fam] at cs
        go_wp2_with fail
        clear cs
        go_loopw [11] (fun s11 wr => ∃ (k : Nat) (E : EntM), k ≤ M ∧ s11 = .int .i64 k ∧ Mem w [] wr (mgrL mb mp OA oc [E] ++ [.pt tb [.int .u64 tid, .int .i64 tcl, .int .i64 t0, .int .i64 t1, .int .i64 t2, .slice tA n tc] 26]) ∧ Hid (OE ⟨tid, tcl, t0, t1, t2, tA, tc, ts⟩ fr E ∧ (turn = 1 → Heared E.id E.s fr (plnOf E.ls) (min k N8)))) (fun s11 _ => M - (intOf s11).toNat)
        case atStart => exact ⟨0, E, by omega, rfl, O, Lib.hid ⟨HI.out.1, fun _ p hp => by omega⟩⟩
        case round =>
          clear O HI E
          obtain ⟨k, E, hkM, rfl, O, HI⟩ := hrel
          simp only [mgrL, List.cons_append, List.nil_append] at O
          obtain ⟨cnd, hcnd⟩ : ∃ c : Bool, c = decide (k < M ∧ (turn = 1 ∨ k < ord.length)) := ⟨_, rfl⟩
          have cs := O.facts
          try simp only [factsP, cellsP, roomP, foots_cons, foots_nil, foots_append, foot_pt, ptb, ptb_mapA, foot_mapA, factsP_mapA, foot_bun, List.append_nil, List.nil_append, List.cons_append, List.nodup_cons, List.nodup_nil, List.mem_cons, List.not_mem_nil, List.mem_singleton, List.forall_mem_cons, not_or, not_false_eq_true, and_true, true_and, or_false, false_or, forall_eq_or_imp, forall_eq, implies_true, Nat.zero_add, Nat.reduceAdd, and_assoc, ptb_mapA, factsP_bun, ptb_bun, upd_listA, upd_mapA, upd_bun, upd_fam, ptb_listA, factsP_listA, Nat.mul_one, ptb_fam, factsP_fam] at cs
          go_upto_region 12 with fail
          go_cut [66] (fun s66 wc => s66 = .bool cnd ∧ Mem w [] wc [.pt mb [.slice OA [E].length oc, .map (some mp)] 95, listA 22 1 u64Cells OA oc ([E].map (·.id)), mapA u64K ptrV mp ([E].map (fun E => (E.id, E.eb))), fam entA [E], .pt tb [.int .u64 tid, .int .i64 tcl, .int .i64 t0, .int .i64 t1, .int .i64 t2, .slice tA n tc] 26])
          case first =>
            have HCN := Lib.hid hcnd
            clear hcnd
            by_cases c1 : k < M
            · have c1i : (k : Int) < M := by omega
              by_cases c2 : turn = 1
              · subst c2
                have cs := O.facts
                try simp only [factsP, cellsP, roomP, foots_cons, foots_nil, foots_append, foot_pt, ptb, ptb_mapA, foot_mapA, factsP_mapA, foot_bun, List.append_nil, List.nil_append, List.cons_append, List.nodup_cons, List.nodup_nil, List.mem_cons, List.not_mem_nil, List.mem_singleton, List.forall_mem_cons, not_or, not_false_eq_true, and_true, true_and, or_false, false_or, forall_eq_or_imp, forall_eq, implies_true, Nat.zero_add, Nat.reduceAdd, and_assoc, ptb_mapA, factsP_bun, ptb_bun, upd_listA, upd_mapA, upd_bun, upd_fam, ptb_listA, factsP_listA, Nat.mul_one, ptb_fam, factsP_fam] at cs
                go_wp2_with fail
                go_meet
                exact ⟨by rw [HCN.out]; simp [c1], O⟩
              · have c2i : ((turn : Int) == 1) = false := by simp; omega
                by_cases c3 : k < ord.length
                · have c3i : (k : Int) < ord.length := by omega
                  have cs := O.facts
                  try simp only [factsP, cellsP, roomP, foots_cons, foots_nil, foots_append, foot_pt, ptb, ptb_mapA, foot_mapA, factsP_mapA, foot_bun, List.append_nil, List.nil_append, List.cons_append, List.nodup_cons, List.nodup_nil, List.mem_cons, List.not_mem_nil, List.mem_singleton, List.forall_mem_cons, not_or, not_false_eq_true, and_true, true_and, or_false, false_or, forall_eq_or_imp, forall_eq, implies_true, Nat.zero_add, Nat.reduceAdd, and_assoc, ptb_mapA, factsP_bun, ptb_bun, upd_listA, upd_mapA, upd_bun, upd_fam, ptb_listA, factsP_listA, Nat.mul_one, ptb_fam, factsP_fam] at cs
                  go_wp2_with fail
                  go_meet
                  exact ⟨by rw [HCN.out]; simp [c1, c3], O⟩
                · have c3i : ¬ (k : Int) < ord.length := by omega
                  have cs := O.facts
                  try simp only [factsP, cellsP, roomP, foots_cons, foots_nil, foots_append, foot_pt, ptb, ptb_mapA, foot_mapA, factsP_mapA, foot_bun, List.append_nil, List.nil_append, List.cons_append, List.nodup_cons, List.nodup_nil, List.mem_cons, List.not_mem_nil, List.mem_singleton, List.forall_mem_cons, not_or, not_false_eq_true, and_true, true_and, or_false, false_or, forall_eq_or_imp, forall_eq, implies_true, Nat.zero_add, Nat.reduceAdd, and_assoc, ptb_mapA, factsP_bun, ptb_bun, upd_listA, upd_mapA, upd_bun, upd_fam, ptb_listA, factsP_listA, Nat.mul_one, ptb_fam, factsP_fam] at cs
                  go_wp2_with fail
                  go_meet
                  exact ⟨by rw [HCN.out]; simp [c2, c3], O⟩
            · have c1i : ¬ (k : Int) < M := by omega
              have cs := O.facts
              try simp only [factsP, cellsP, roomP, foots_cons, foots_nil, foots_append, foot_pt, ptb, ptb_mapA, foot_mapA, factsP_mapA, foot_bun, List.append_nil, List.nil_append, List.cons_append, List.nodup_cons, List.nodup_nil, List.mem_cons, List.not_mem_nil, List.mem_singleton, List.forall_mem_cons, not_or, not_false_eq_true, and_true, true_and, or_false, false_or, forall_eq_or_imp, forall_eq, implies_true, Nat.zero_add, Nat.reduceAdd, and_assoc, ptb_mapA, factsP_bun, ptb_bun, upd_listA, upd_mapA, upd_bun, upd_fam, ptb_listA, factsP_listA, Nat.mul_one, ptb_fam, factsP_fam] at cs
              go_wp2_with fail
              go_meet
              exact ⟨by rw [HCN.out]; simp [c1], O⟩
          case rest =>
            clear O
            obtain ⟨rfl, O⟩ := hcut
            cases cnd
            · have hout : ¬ (k < M ∧ (turn = 1 ∨ k < ord.length)) := by simpa using hcnd.symm
              have cs := O.facts
              try simp only [factsP, cellsP, roomP, foots_cons, foots_nil, foots_append, foot_pt, ptb, ptb_mapA, foot_mapA, factsP_mapA, foot_bun, List.append_nil, List.nil_append, List.cons_append, List.nodup_cons, List.nodup_nil, List.mem_cons, List.not_mem_nil, List.mem_singleton, List.forall_mem_cons, not_or, not_false_eq_true, and_true, true_and, or_false, false_or, forall_eq_or_imp, forall_eq, implies_true, Nat.zero_add, Nat.reduceAdd, and_assoc, ptb_mapA, factsP_bun, ptb_bun, upd_listA, upd_mapA, upd_bun, upd_fam, ptb_listA, factsP_listA, Nat.mul_one, ptb_fam, factsP_fam] at cs
              go_wp2_with fail
              go_roundw
              case rel =>
                refine ⟨turn + 1, E, by omega, by go_num, O, Lib.hid ⟨HI.out.1, fun e => ?_⟩⟩
                have h1 := HI.out.2 (by omega)
                rwa [Nat.min_eq_right (by omega)] at h1
              case measure => simp [intOf]; omega
            · have hin : k < M ∧ (turn = 1 ∨ k < ord.length) := by simpa using hcnd.symm
              clear hcnd
              obtain ⟨hk1, hk2⟩ := hin
              have hk1i : (k : Int) < M := by omega
              obtain ⟨a, ha⟩ : ∃ a, a = if turn = 0 then pickN (ord.getD k 0) N8 else k % N8 := ⟨_, rfl⟩
              have haN : a < N8 := by
                rw [ha]
                split
                · exact pickN_lt (by omega)
                · exact Nat.mod_lt _ (by omega)
              have HTI : Hid (turn = 0 ∨ turn = 1) := Lib.hid (by omega)
              have HK2 := Lib.hid hk2
              have HA := Lib.hid ha
              clear hk2 ha
              have q1 : (k : Int).tmod (N8 : Int) = ((k % N8 : Nat) : Int) := (Int.ofNat_tmod k N8).symm
              have q2 : IntKind.i64.wrap ((k % N8 : Nat) : Int) = ((k % N8 : Nat) : Int) := wrapN (by have := Nat.mod_lt k (show 0 < N8 by omega); omega)
              have cs := O.facts
              try simp only [factsP, cellsP, roomP, foots_cons, foots_nil, foots_append, foot_pt, ptb, ptb_mapA, foot_mapA, factsP_mapA, foot_bun, List.append_nil, List.nil_append, List.cons_append, List.nodup_cons, List.nodup_nil, List.mem_cons, List.not_mem_nil, List.mem_singleton, List.forall_mem_cons, not_or, not_false_eq_true, and_true, true_and, or_false, false_or, forall_eq_or_imp, forall_eq, implies_true, Nat.zero_add, Nat.reduceAdd, and_assoc, ptb_mapA, factsP_bun, ptb_bun, upd_listA, upd_mapA, upd_bun, upd_fam, ptb_listA, factsP_listA, Nat.mul_one, ptb_fam, factsP_fam] at cs
              go_upto_region 14 with fail
              go_cut [12] (fun s12 wc => s12 = .int .i64 ((k % N8 : Nat) : Int) ∧ Mem w [] wc [.pt mb [.slice OA [E].length oc, .map (some mp)] 95, listA 22 1 u64Cells OA oc ([E].map (·.id)), mapA u64K ptrV mp ([E].map (fun E => (E.id, E.eb))), fam entA [E], .pt tb [.int .u64 tid, .int .i64 tcl, .int .i64 t0, .int .i64 t1, .int .i64 t2, .slice tA n tc] 26])
              case first =>
                have cs := O.facts
                try simp only [factsP, cellsP, roomP, foots_cons, foots_nil, foots_append, foot_pt, ptb, ptb_mapA, foot_mapA, factsP_mapA, foot_bun, List.append_nil, List.nil_append, List.cons_append, List.nodup_cons, List.nodup_nil, List.mem_cons, List.not_mem_nil, List.mem_singleton, List.forall_mem_cons, not_or, not_false_eq_true, and_true, true_and, or_false, false_or, forall_eq_or_imp, forall_eq, implies_true, Nat.zero_add, Nat.reduceAdd, and_assoc, ptb_mapA, factsP_bun, ptb_bun, upd_listA, upd_mapA, upd_bun, upd_fam, ptb_listA, factsP_listA, Nat.mul_one, ptb_fam, factsP_fam] at cs
                go_wp2_with fail
                go_meet
                exact ⟨by rw [hN8]; simp, O⟩
              case rest =>
                clear O q1 q2
                obtain ⟨rfl, O⟩ := hcut
                have cs := O.facts
                try simp only [factsP, cellsP, roomP, foots_cons, foots_nil, foots_append, foot_pt, ptb, ptb_mapA, foot_mapA, factsP_mapA, foot_bun, List.append_nil, List.nil_append, List.cons_append, List.nodup_cons, List.nodup_nil, List.mem_cons, List.not_mem_nil, List.mem_singleton, List.forall_mem_cons, not_or, not_false_eq_true, and_true, true_and, or_false, false_or, forall_eq_or_imp, forall_eq, implies_true, Nat.zero_add, Nat.reduceAdd, and_assoc, ptb_mapA, factsP_bun, ptb_bun, upd_listA, upd_mapA, upd_bun, upd_fam, ptb_listA, factsP_listA, Nat.mul_one, ptb_fam, factsP_fam] at cs
                go_upto_if 73 with fail
                go_cut [12] (fun s12 wc => s12 = .int .i64 (a : Nat) ∧ Mem w [] wc [.pt mb [.slice OA [E].length oc, .map (some mp)] 95, listA 22 1 u64Cells OA oc ([E].map (·.id)), mapA u64K ptrV mp ([E].map (fun E => (E.id, E.eb))), fam entA [E], .pt tb [.int .u64 tid, .int .i64 tcl, .int .i64 t0, .int .i64 t1, .int .i64 t2, .slice tA n tc] 26])
                case first =>
                  have ha := HA.out
                  rcases HTI.out with e | e
                  · rw [if_pos e] at ha
                    have hko : k < ord.length := by have := HK2.out; omega
                    have hkoi : (k : Int) < ord.length := by omega
                    obtain ⟨b, off, rfl, hbb, hq⟩ := HC.out k _ (List.getElem?_eq_getElem hko)
                    have hgd : ord.getD k 0 = ord[k] := by simp [List.getD_eq_getElem?_getD, hko]
                    have hob := HO.out _ (List.getElem_mem hko)
                    rw [hgd] at ha
                    generalize ord[k] = ov at *
                    have Vw := Lib.hid (fun W (h : Fr [] w W) => arg_view hbb hq h)
                    simp only [i64Cells, cellsQ, Nat.add_zero, Nat.mul_one, and_true] at Vw
                    have CP := Lib.hid (fun W => q_pick ov N8 hob (by omega) (by omega) W)
                    rw [← ha, show (N8 : Int) = 8 * (n : Int) by omega] at CP
                    clear ha hq hgd hob
                    subst e
                    skip
                    have cs := O.facts
                    try simp only [factsP, cellsP, roomP, foots_cons, foots_nil, foots_append, foot_pt, ptb, ptb_mapA, foot_mapA, factsP_mapA, foot_bun, List.append_nil, List.nil_append, List.cons_append, List.nodup_cons, List.nodup_nil, List.mem_cons, List.not_mem_nil, List.mem_singleton, List.forall_mem_cons, not_or, not_false_eq_true, and_true, true_and, or_false, false_or, forall_eq_or_imp, forall_eq, implies_true, Nat.zero_add, Nat.reduceAdd, and_assoc, ptb_mapA, factsP_bun, ptb_bun, upd_listA, upd_mapA, upd_bun, upd_fam, ptb_listA, factsP_listA, Nat.mul_one, ptb_fam, factsP_fam] at cs
                    have v1 := Vw.out _ O.fr
                    simp only [roomP, and_assoc] at v1
                    go_wp2_with fail
                    first | apply Mem.atCall | apply Mem.atCode | apply Mem.atList
                    case h => repeat' (first | (with_reducible exact O) | (with_reducible apply Mem.drew) | (with_reducible apply Mem.drewN) | (with_reducible apply Mem.ext) | (with_reducible apply Mem.alloc) | (with_reducible apply Mem.setCell) | (simp only [ptb, ptb_upd, foots_cons, List.mem_cons, World.size_alloc, size_ext, World.size_setCell, true_or, or_true, eq_self_iff_true, ptb_mapA, ptb_bun, ptb_listA, ptb_fam]))
                    case' k =>
                      intro xa O'
                      (try clear O)
                      have O := O'
                      clear O'
                      (first | simp only [sel, rst, List.cons_append, List.nil_append, World.size_alloc, size_ext, World.size_setCell, size_setMap, World.size_drew, size_drewN, upd, List.set_cons_zero, List.set_cons_succ, if_true, if_false, reduceIte, not_false_eq_true, ne_lt0, ne_lt1, ne_lt2, ne_lt3, ne_lt4, upd_listA, upd_mapA, upd_bun, upd_fam, cs] at O | simp only [sel, rst, List.cons_append, List.nil_append, World.size_alloc, size_ext, World.size_setCell, size_setMap, World.size_drew, size_drewN, upd, List.set_cons_zero, List.set_cons_succ, if_true, if_false, reduceIte, not_false_eq_true, ne_lt0, ne_lt1, ne_lt2, ne_lt3, ne_lt4, upd_listA, upd_mapA, upd_bun, upd_fam] at O | skip)
                      (try clear cs)
                      (try clear v1)
                      (try clear v2)
                      (try clear v3)
                    refine (CP.out _).mono ?_
                    rintro e xb ⟨rfl, o⟩
                    replace O := O.callp [] o
                    clear o
                    simp only [put, List.cons_append, List.nil_append] at O
                    skip
                    have cs := O.facts
                    try simp only [factsP, cellsP, roomP, foots_cons, foots_nil, foots_append, foot_pt, ptb, ptb_mapA, foot_mapA, factsP_mapA, foot_bun, List.append_nil, List.nil_append, List.cons_append, List.nodup_cons, List.nodup_nil, List.mem_cons, List.not_mem_nil, List.mem_singleton, List.forall_mem_cons, not_or, not_false_eq_true, and_true, true_and, or_false, false_or, forall_eq_or_imp, forall_eq, implies_true, Nat.zero_add, Nat.reduceAdd, and_assoc, ptb_mapA, factsP_bun, ptb_bun, upd_listA, upd_mapA, upd_bun, upd_fam, ptb_listA, factsP_listA, Nat.mul_one, ptb_fam, factsP_fam] at cs
                    go_wp2_with fail
                    go_meet
                    exact ⟨rfl, O⟩
                  · rw [if_neg (by omega)] at ha
                    have ei : ((turn : Int) == 0) = false := by simp; omega
                    subst ha
                    have cs := O.facts
                    try simp only [factsP, cellsP, roomP, foots_cons, foots_nil, foots_append, foot_pt, ptb, ptb_mapA, foot_mapA, factsP_mapA, foot_bun, List.append_nil, List.nil_append, List.cons_append, List.nodup_cons, List.nodup_nil, List.mem_cons, List.not_mem_nil, List.mem_singleton, List.forall_mem_cons, not_or, not_false_eq_true, and_true, true_and, or_false, false_or, forall_eq_or_imp, forall_eq, implies_true, Nat.zero_add, Nat.reduceAdd, and_assoc, ptb_mapA, factsP_bun, ptb_bun, upd_listA, upd_mapA, upd_bun, upd_fam, ptb_listA, factsP_listA, Nat.mul_one, ptb_fam, factsP_fam] at cs
                    go_wp2_with fail
                    go_meet
                    exact ⟨rfl, O⟩
                case rest =>
                  clear O
                  obtain ⟨rfl, O⟩ := hcut
                  obtain ⟨eb, lb, eid, cl, m0, m1, m2, A, c, s, ls, d⟩ := E
                  obtain rfl : eid = tid := HI.out.1.id
                  have hlnd : (keysOf ls).Nodup := by
                    have O2 := mgr_open (L := [.pt tb [.int .u64 eid, .int .i64 tcl, .int .i64 t0, .int .i64 t1, .int .i64 t2, .slice tA n tc] 26]) (i := 0) O rfl
                    have := MapAt.nodup (κ := instKey) (vv := ptrV) (b := lb) (m := ls.map lnPtr) (O2.map (by simp [EntM.parts]))
                    simpa [keysOf, lnPtr, Function.comp_def] using this
                  have HND := Lib.hid hlnd
                  clear hlnd
                  have hcore := HI.out.1.core
                  simp only at hcore
                  have hsn : s.length = n := by rw [core_len hcore]; exact HN.out
                  have hi8 : a / 8 < n := by omega
                  have hlts : a / 8 < ts.length := by rw [HN.out]; exact hi8
                  obtain ⟨x, hx⟩ : ∃ x, ts[a / 8]? = some x := ⟨_, List.getElem?_eq_getElem hlts⟩
                  obtain ⟨y, hy, hyc⟩ := core_get hcore hx
                  have hyb := (core_right hyc).2.1
                  have HOH : Hid (readOf (textOf (fr (a / 8) (a / 2 % 4))) ≠ 0 → ∀ ls', plnOf ls' = ((EntM.mk eb lb eid cl m0 m1 m2 A c s ls d).hears y.bucket ((a / 2 % 4 : Nat) : Int) ((a % 2 : Nat) : Int) noB (textOf (fr (a / 8) (a / 2 % 4)))).2.2.1 →
                      OE ⟨eid, tcl, t0, t1, t2, tA, tc, ts⟩ fr (EntM.mk eb lb eid cl m0 m1 m2 A c s ls' ((EntM.mk eb lb eid cl m0 m1 m2 A c s ls d).hears y.bucket ((a / 2 % 4 : Nat) : Int) ((a % 2 : Nat) : Int) noB (textOf (fr (a / 8) (a / 2 % 4)))).2.2.2) ∧
                      ∀ m, Heared eid s fr (plnOf ls) m → Heared eid s fr (plnOf ls') m ∧ (m = a → Heared eid s fr (plnOf ls') (m + 1))) :=
                    Lib.hid (fun hv ls' hl => HI.out.1.hear (by simp only; omega) hy hv hl)
                  have HSK : Hid (readOf (textOf (fr (a / 8) (a / 2 % 4))) = 0 → Heared eid s fr (plnOf ls) a → Heared eid s fr (plnOf ls) (a + 1)) := Lib.hid (fun hv h => heared_skip hv h)
                  obtain ⟨bx, ox, rfl, hbx, hqx⟩ := HT.out.at_ _ x hx
                  have VX := Lib.hid (fun W (h : Fr [] w W) => arg_view hbx hqx h)
                  obtain ⟨bv, ov, rfl, hbv, hqv⟩ := HVA.out _ hi8
                  have hr4 : a / 2 % 4 < 4 := Nat.mod_lt _ (by omega)
                  have VC := Lib.hid (fun W (h : Fr [] w W) => votes_cell hbv hqv hr4 h)
                  have hbk := HI.out.1.good.bk y (List.mem_of_getElem? hy)
                  have hwf : (⟨eid, y.bucket, ((a / 2 % 4 : Nat) : Int), 0⟩ : Inst).wf := instWf HI.out.1.good.id (by simp [Lit.wf, IntKind.min, IntKind.max, IntKind.signed, IntKind.bits]; omega) (by omega)
                  have d1 : (a : Int) / 8 = ((a / 8 : Nat) : Int) := by omega
                  have d2 : (a : Int) / 2 % 4 = ((a / 2 % 4 : Nat) : Int) := by omega
                  have d3 : (a : Int) % 2 = ((a % 2 : Nat) : Int) := by omega
                  have d4 : (a : Int).tmod 2 = ((a % 2 : Nat) : Int) := by rw [Int.tmod_eq_emod_of_nonneg (by omega)]; omega
                  clear hx hy hqx hqv
                  generalize a / 8 = i at *
                  generalize a / 2 % 4 = r at *
                  generalize a % 2 = f at *
                  have HWF := Lib.hid hwf
                  obtain ⟨xb, xv, xw, xB, xd, xe, xi⟩ := x
                  simp only [ItS.r] at hyb
                  simp only [itCells, cellsQ, Nat.add_zero, Nat.reduceAdd, and_true, Nat.zero_add] at VX
                  generalize y.bucket = yb at *
                  subst hyb
                  obtain ⟨vv, hvv⟩ : ∃ vv, fr i r = vv := ⟨_, rfl⟩
                  rw [hvv] at VC HOH HSK
                  have hii : (i : Int) < n := by omega
                  have hri : (r : Int) < 4 := by omega
                  have CT := Lib.hid (fun W => q_Text vv W)
                  clear hwf hbk hcore hyc hvv
                  skip
                  have cs := O.facts
                  try simp only [factsP, cellsP, roomP, foots_cons, foots_nil, foots_append, foot_pt, ptb, ptb_mapA, foot_mapA, factsP_mapA, foot_bun, List.append_nil, List.nil_append, List.cons_append, List.nodup_cons, List.nodup_nil, List.mem_cons, List.not_mem_nil, List.mem_singleton, List.forall_mem_cons, not_or, not_false_eq_true, and_true, true_and, or_false, false_or, forall_eq_or_imp, forall_eq, implies_true, Nat.zero_add, Nat.reduceAdd, and_assoc, ptb_mapA, factsP_bun, ptb_bun, upd_listA, upd_mapA, upd_bun, upd_fam, ptb_listA, factsP_listA, Nat.mul_one, ptb_fam, factsP_fam] at cs
                  have v1 := VX.out _ O.fr
                  simp only [roomP, and_assoc] at v1
                  have v2 := VC.out _ O.fr
                  simp only [roomP, and_assoc] at v2
                  go_wp2_with fail
                  first | apply Mem.atCall | apply Mem.atCode | apply Mem.atList
                  case h => repeat' (first | (with_reducible exact O) | (with_reducible apply Mem.drew) | (with_reducible apply Mem.drewN) | (with_reducible apply Mem.ext) | (with_reducible apply Mem.alloc) | (with_reducible apply Mem.setCell) | (simp only [ptb, ptb_upd, foots_cons, List.mem_cons, World.size_alloc, size_ext, World.size_setCell, true_or, or_true, eq_self_iff_true, ptb_mapA, ptb_bun, ptb_listA, ptb_fam]))
                  case' k =>
                    intro wd O'
                    (try clear O)
                    have O := O'
                    clear O'
                    (first | simp only [sel, rst, List.cons_append, List.nil_append, World.size_alloc, size_ext, World.size_setCell, size_setMap, World.size_drew, size_drewN, upd, List.set_cons_zero, List.set_cons_succ, if_true, if_false, reduceIte, not_false_eq_true, ne_lt0, ne_lt1, ne_lt2, ne_lt3, ne_lt4, upd_listA, upd_mapA, upd_bun, upd_fam, cs] at O | simp only [sel, rst, List.cons_append, List.nil_append, World.size_alloc, size_ext, World.size_setCell, size_setMap, World.size_drew, size_drewN, upd, List.set_cons_zero, List.set_cons_succ, if_true, if_false, reduceIte, not_false_eq_true, ne_lt0, ne_lt1, ne_lt2, ne_lt3, ne_lt4, upd_listA, upd_mapA, upd_bun, upd_fam] at O | skip)
                    (try clear cs)
                    (try clear v1)
                    (try clear v2)
                    (try clear v3)
                  refine (CT.out _).mono ?_
                  rintro e we ⟨rfl, o⟩
                  replace O := O.callp [] o
                  clear o
                  simp only [put, List.cons_append, List.nil_append] at O
                  clear VC CT
                  by_cases hv1 : vv = 1
                  · subst hv1
                    have hrv : readOf (textOf 1) ≠ 0 := by simp [readOf, textOf, ByteArray.toList_eq]
                    have OH := HOH.out hrv
                    have CH := Lib.hid (fun W (hW : Pre W (mgrL mb mp OA oc [EntM.mk eb lb eid cl m0 m1 m2 A c s ls d])) => m_Hear W mb mp OA oc [EntM.mk eb lb eid cl m0 m1 m2 A c s ls d] 0 _ rfl HI.out.1.good (HI.out.1.lnok HND.out) hW yb r f noB (textOf 1) HWF.out)
                    obtain ⟨hh, hhe⟩ : ∃ hh, (EntM.mk eb lb eid cl m0 m1 m2 A c s ls d).hears yb r f noB (textOf 1) = hh := ⟨_, rfl⟩
                    rw [hhe] at OH
                    simp only [hhe] at CH
                    have HOH2 := Lib.hid OH
                    clear OH hhe hrv HOH HSK
                    obtain ⟨h1, h2, h3, h4⟩ := hh
                    have etx : textOf 1 = ⟨#[112]⟩ := rfl
                    have etl : (⟨#[112]⟩ : ByteArray).toList = [112] := by rw [ByteArray.toList_eq]
                    simp only [etx] at CH
                    rw [etx]
                    simp only [Ballot.val, noB, mgrL] at CH
                    clear etx
                    skip
                    have cs := O.facts
                    try simp only [factsP, cellsP, roomP, foots_cons, foots_nil, foots_append, foot_pt, ptb, ptb_mapA, foot_mapA, factsP_mapA, foot_bun, List.append_nil, List.nil_append, List.cons_append, List.nodup_cons, List.nodup_nil, List.mem_cons, List.not_mem_nil, List.mem_singleton, List.forall_mem_cons, not_or, not_false_eq_true, and_true, true_and, or_false, false_or, forall_eq_or_imp, forall_eq, implies_true, Nat.zero_add, Nat.reduceAdd, and_assoc, ptb_mapA, factsP_bun, ptb_bun, upd_listA, upd_mapA, upd_bun, upd_fam, ptb_listA, factsP_listA, Nat.mul_one, ptb_fam, factsP_fam] at cs
                    have v1 := VX.out _ O.fr
                    simp only [roomP, and_assoc] at v1
                    go_upto_region 21 with fail
                    apply region_held_mem [false, false, false, false, true] (by kernel_rfl)
                    case O => repeat' (first | (with_reducible exact O) | (with_reducible apply Mem.drew) | (with_reducible apply Mem.drewN) | (with_reducible apply Mem.ext) | (with_reducible apply Mem.alloc) | (with_reducible apply Mem.setCell) | (simp only [ptb, ptb_upd, foots_cons, List.mem_cons, World.size_alloc, size_ext, World.size_setCell, true_or, or_true, eq_self_iff_true, ptb_mapA, ptb_bun, ptb_listA, ptb_fam]))
                    case' h =>
                      intro wr1 O'
                      (try clear O)
                      have O := O'
                      clear O'
                      (first | simp only [sel, rst, List.cons_append, List.nil_append, World.size_alloc, size_ext, World.size_setCell, size_setMap, World.size_drew, size_drewN, upd, List.set_cons_zero, List.set_cons_succ, if_true, if_false, reduceIte, not_false_eq_true, ne_lt0, ne_lt1, ne_lt2, ne_lt3, ne_lt4, upd_listA, upd_mapA, upd_bun, upd_fam, cs] at O | simp only [sel, rst, List.cons_append, List.nil_append, World.size_alloc, size_ext, World.size_setCell, size_setMap, World.size_drew, size_drewN, upd, List.set_cons_zero, List.set_cons_succ, if_true, if_false, reduceIte, not_false_eq_true, ne_lt0, ne_lt1, ne_lt2, ne_lt3, ne_lt4, upd_listA, upd_mapA, upd_bun, upd_fam] at O | skip)
                      (try clear cs)
                      (try clear v1)
                      (try clear v2)
                      (try clear v3)
                    refine takeH (i := 0) (v := ?v1_1) rfl (by kernel_rfl) (by kernel_rfl) (by kernel_rfl) (fun _ _ _ h => h) (by rfl) ?y1_1 (O.sel [false, false, false, false, true]) ?r1_1
                    case y1_1 =>
                      intro WW hSw
                      (go_simp) <;> (with_reducible rfl)
                    case' r1_1 =>
                      try simp only [Act.put, List.setIfInBounds_toArray, List.set_cons_zero, List.set_cons_succ]
                    refine takeH (i := 1) (v := ?v1_2) rfl (by kernel_rfl) (by kernel_rfl) (by kernel_rfl) (fun _ _ _ h => h) (by rfl) ?y1_2 (O.sel [false, false, false, false, true]) ?r1_2
                    case y1_2 =>
                      intro WW hSw
                      (go_simp) <;> (with_reducible rfl)
                    case' r1_2 =>
                      try simp only [Act.put, List.setIfInBounds_toArray, List.set_cons_zero, List.set_cons_succ]
                    refine takeH (i := 2) (v := ?v1_3) rfl (by kernel_rfl) (by kernel_rfl) (by kernel_rfl) (fun _ _ _ h => h) (by rfl) ?y1_3 (O.sel [false, false, false, false, true]) ?r1_3
                    case y1_3 =>
                      intro WW hSw
                      replace hSw : Mem _ _ WW _ := hSw
                      have cs := hSw.facts
                      simp only [sel, factsP, cellsP, roomP, foots_cons, foots_nil, foots_append, foot_pt, ptb, ptb_mapA, foot_mapA, factsP_mapA, foot_bun, List.append_nil, List.nil_append, List.cons_append, List.nodup_cons, List.nodup_nil, List.mem_cons, List.not_mem_nil, List.mem_singleton, List.forall_mem_cons, not_or, not_false_eq_true, and_true, true_and, or_false, false_or, forall_eq_or_imp, forall_eq, implies_true, Nat.zero_add, Nat.reduceAdd, and_assoc, ptb_mapA, factsP_bun, ptb_bun, upd_listA, upd_mapA, upd_bun, upd_fam, ptb_listA, factsP_listA, Nat.mul_one, ptb_fam, factsP_fam] at cs
                      have v1 := VX.out _ hSw.fr
                      simp only [roomP, and_assoc] at v1
                      (go_simp) <;> (with_reducible rfl)
                    case' r1_3 =>
                      try simp only [Act.put, List.setIfInBounds_toArray, List.set_cons_zero, List.set_cons_succ]
                    refine takeH (i := 3) (v := ?v1_4) rfl (by kernel_rfl) (by kernel_rfl) (by kernel_rfl) (fun _ _ _ h => h) (by rfl) ?y1_4 (O.sel [false, false, false, false, true]) ?r1_4
                    case y1_4 =>
                      intro WW hSw
                      (go_simp) <;> (with_reducible rfl)
                    case' r1_4 =>
                      try simp only [Act.put, List.setIfInBounds_toArray, List.set_cons_zero, List.set_cons_succ]
                    refine takeH (i := 4) (v := ?v1_5) rfl (by kernel_rfl) (by kernel_rfl) (by kernel_rfl) (fun _ _ _ h => h) (by rfl) ?y1_5 (O.sel [false, false, false, false, true]) ?r1_5
                    case y1_5 =>
                      intro WW hSw
                      replace hSw : Mem _ _ WW _ := hSw
                      have cs := hSw.facts
                      simp only [sel, factsP, cellsP, roomP, foots_cons, foots_nil, foots_append, foot_pt, ptb, ptb_mapA, foot_mapA, factsP_mapA, foot_bun, List.append_nil, List.nil_append, List.cons_append, List.nodup_cons, List.nodup_nil, List.mem_cons, List.not_mem_nil, List.mem_singleton, List.forall_mem_cons, not_or, not_false_eq_true, and_true, true_and, or_false, false_or, forall_eq_or_imp, forall_eq, implies_true, Nat.zero_add, Nat.reduceAdd, and_assoc, ptb_mapA, factsP_bun, ptb_bun, upd_listA, upd_mapA, upd_bun, upd_fam, ptb_listA, factsP_listA, Nat.mul_one, ptb_fam, factsP_fam] at cs
                      have v1 := VX.out _ hSw.fr
                      simp only [roomP, and_assoc] at v1
                      (go_simp) <;> (with_reducible rfl)
                    case' r1_5 =>
                      try simp only [Act.put, List.setIfInBounds_toArray, List.set_cons_zero, List.set_cons_succ]
                    refine takeH (i := 5) (v := ?v1_6) rfl (by kernel_rfl) (by kernel_rfl) (by kernel_rfl) (fun _ _ _ h => h) (by rfl) ?y1_6 (O.sel [false, false, false, false, true]) ?r1_6
                    case y1_6 =>
                      intro WW hSw
                      (go_simp) <;> (with_reducible rfl)
                    case' r1_6 =>
                      try simp only [Act.put, List.setIfInBounds_toArray, List.set_cons_zero, List.set_cons_succ]
                    refine takeH (i := 6) (v := ?v1_7) rfl (by kernel_rfl) (by kernel_rfl) (by kernel_rfl) (fun _ _ _ h => h) (by rfl) ?y1_7 (O.sel [false, false, false, false, true]) ?r1_7
                    case y1_7 =>
                      intro WW hSw
                      replace hSw : Mem _ _ WW _ := hSw
                      have cs := hSw.facts
                      simp only [sel, factsP, cellsP, roomP, foots_cons, foots_nil, foots_append, foot_pt, ptb, ptb_mapA, foot_mapA, factsP_mapA, foot_bun, List.append_nil, List.nil_append, List.cons_append, List.nodup_cons, List.nodup_nil, List.mem_cons, List.not_mem_nil, List.mem_singleton, List.forall_mem_cons, not_or, not_false_eq_true, and_true, true_and, or_false, false_or, forall_eq_or_imp, forall_eq, implies_true, Nat.zero_add, Nat.reduceAdd, and_assoc, ptb_mapA, factsP_bun, ptb_bun, upd_listA, upd_mapA, upd_bun, upd_fam, ptb_listA, factsP_listA, Nat.mul_one, ptb_fam, factsP_fam] at cs
                      have v1 := VX.out _ hSw.fr
                      simp only [roomP, and_assoc] at v1
                      (go_simp) <;> (with_reducible rfl)
                    case' r1_7 =>
                      try simp only [Act.put, List.setIfInBounds_toArray, List.set_cons_zero, List.set_cons_succ]
                    refine takeH (i := 7) (v := ?v1_8) rfl (by kernel_rfl) (by kernel_rfl) (by kernel_rfl) (fun _ _ _ h => h) (by rfl) ?y1_8 (O.sel [false, false, false, false, true]) ?r1_8
                    case y1_8 =>
                      intro WW hSw
                      (go_simp) <;> (with_reducible rfl)
                    case' r1_8 =>
                      try simp only [Act.put, List.setIfInBounds_toArray, List.set_cons_zero, List.set_cons_succ]
                    refine takeH (i := 8) (v := ?v1_9) rfl (by kernel_rfl) (by kernel_rfl) (by kernel_rfl) (fun _ _ _ h => h) (by rfl) ?y1_9 (O.sel [false, false, false, false, true]) ?r1_9
                    case y1_9 =>
                      intro WW hSw
                      replace hSw : Mem _ _ WW _ := hSw
                      have cs := hSw.facts
                      simp only [sel, factsP, cellsP, roomP, foots_cons, foots_nil, foots_append, foot_pt, ptb, ptb_mapA, foot_mapA, factsP_mapA, foot_bun, List.append_nil, List.nil_append, List.cons_append, List.nodup_cons, List.nodup_nil, List.mem_cons, List.not_mem_nil, List.mem_singleton, List.forall_mem_cons, not_or, not_false_eq_true, and_true, true_and, or_false, false_or, forall_eq_or_imp, forall_eq, implies_true, Nat.zero_add, Nat.reduceAdd, and_assoc, ptb_mapA, factsP_bun, ptb_bun, upd_listA, upd_mapA, upd_bun, upd_fam, ptb_listA, factsP_listA, Nat.mul_one, ptb_fam, factsP_fam] at cs
                      have v1 := VX.out _ hSw.fr
                      simp only [roomP, and_assoc] at v1
                      (go_simp) <;> (with_reducible rfl)
                    case' r1_9 =>
                      try simp only [Act.put, List.setIfInBounds_toArray, List.set_cons_zero, List.set_cons_succ]
                    refine takeH (i := 9) (v := ?v1_10) rfl (by kernel_rfl) (by kernel_rfl) (by kernel_rfl) (fun _ _ _ h => h) (by rfl) ?y1_10 (O.sel [false, false, false, false, true]) ?r1_10
                    case y1_10 =>
                      intro WW hSw
                      (go_simp) <;> (with_reducible rfl)
                    case' r1_10 =>
                      try simp only [Act.put, List.setIfInBounds_toArray, List.set_cons_zero, List.set_cons_succ]
                    refine takeH (i := 10) (v := ?v1_11) rfl (by kernel_rfl) (by kernel_rfl) (by kernel_rfl) (fun _ _ _ h => h) (by rfl) ?y1_11 (O.sel [false, false, false, false, true]) ?r1_11
                    case y1_11 =>
                      intro WW hSw
                      (go_simp) <;> (with_reducible rfl)
                    case' r1_11 =>
                      try simp only [Act.put, List.setIfInBounds_toArray, List.set_cons_zero, List.set_cons_succ]
                    refine takeH (i := 11) (v := ?v1_12) rfl (by kernel_rfl) (by kernel_rfl) (by kernel_rfl) (fun _ _ _ h => h) (by rfl) ?y1_12 (O.sel [false, false, false, false, true]) ?r1_12
                    case y1_12 =>
                      intro WW hSw
                      (go_simp) <;> (with_reducible rfl)
                    case' r1_12 =>
                      try simp only [Act.put, List.setIfInBounds_toArray, List.set_cons_zero, List.set_cons_succ]
                    refine takeH (i := 12) (v := ?v1_13) rfl (by kernel_rfl) (by kernel_rfl) (by kernel_rfl) (fun _ _ _ h => h) (by rfl) ?y1_13 (O.sel [false, false, false, false, true]) ?r1_13
                    case y1_13 =>
                      intro WW hSw
                      (go_simp) <;> (with_reducible rfl)
                    case' r1_13 =>
                      try simp only [Act.put, List.setIfInBounds_toArray, List.set_cons_zero, List.set_cons_succ]
                    refine takeH (i := 13) (v := ?v1_14) rfl (by kernel_rfl) (by kernel_rfl) (by kernel_rfl) (fun _ _ _ h => h) (by rfl) ?y1_14 (O.sel [false, false, false, false, true]) ?r1_14
                    case y1_14 =>
                      intro WW hSw
                      (go_simp) <;> (with_reducible rfl)
                    case' r1_14 =>
                      try simp only [Act.put, List.setIfInBounds_toArray, List.set_cons_zero, List.set_cons_succ]
                    refine wpAnyH_ready (rs := [14]) (by kernel_rfl) (by simp) ?_
                    refine consH rfl (fun K hK => ?_) AllReadyH.nil
                    have cs := O.facts
                    simp only [factsP, cellsP, roomP, foots_cons, foots_nil, foots_append, foot_pt, ptb, ptb_mapA, foot_mapA, factsP_mapA, foot_bun, List.append_nil, List.nil_append, List.cons_append, List.nodup_cons, List.nodup_nil, List.mem_cons, List.not_mem_nil, List.mem_singleton, List.forall_mem_cons, not_or, not_false_eq_true, and_true, true_and, or_false, false_or, forall_eq_or_imp, forall_eq, implies_true, Nat.zero_add, Nat.reduceAdd, and_assoc, ptb_mapA, factsP_bun, ptb_bun, upd_listA, upd_mapA, upd_bun, upd_fam, ptb_listA, factsP_listA, Nat.mul_one, ptb_fam, factsP_fam] at cs
                    have v1 := VX.out _ O.fr
                    simp only [roomP, and_assoc] at v1
                    go_simp
                    apply Mem.atCall
                    case h => repeat' (first | (with_reducible exact O) | (with_reducible apply Mem.drew) | (with_reducible apply Mem.drewN) | (with_reducible apply Mem.ext) | (with_reducible apply Mem.alloc) | (with_reducible apply Mem.setCell) | (simp only [ptb, ptb_upd, foots_cons, List.mem_cons, World.size_alloc, size_ext, World.size_setCell, true_or, or_true, eq_self_iff_true, ptb_mapA, ptb_bun, ptb_listA, ptb_fam]))
                    intro w1_15 O'
                    (try clear O)
                    have O := O'
                    clear O'
                    (first | simp only [sel, rst, List.cons_append, List.nil_append, World.size_alloc, size_ext, World.size_setCell, size_setMap, World.size_drew, size_drewN, upd, List.set_cons_zero, List.set_cons_succ, if_true, if_false, reduceIte, not_false_eq_true, ne_lt0, ne_lt1, ne_lt2, ne_lt3, ne_lt4, upd_listA, upd_mapA, upd_bun, upd_fam, cs] at O | simp only [sel, rst, List.cons_append, List.nil_append, World.size_alloc, size_ext, World.size_setCell, size_setMap, World.size_drew, size_drewN, upd, List.set_cons_zero, List.set_cons_succ, if_true, if_false, reduceIte, not_false_eq_true, ne_lt0, ne_lt1, ne_lt2, ne_lt3, ne_lt4, upd_listA, upd_mapA, upd_bun, upd_fam] at O | skip)
                    (try clear cs)
                    (try clear v1)
                    (try clear v2)
                    (try clear v3)
                    refine (CH.out _ (O.pre [true, true, true, true, false])).mono ?_
                    rintro e w1_15' ⟨rfl, ls2, hls2, o⟩
                    replace O := O.callp [true, true, true, true, false] o
                    clear o
                    simp only [put, List.cons_append, List.nil_append] at O
                    go_wp2_with fail
                    refine hK.out _ _ (O.sel [false, false, false, false, true]) (fun _ => ?_)
                    clear hK K
                    refine wpAnyH_done (by kernel_rfl) ?_ _
                    simp only [List.set_cons_zero] at O
                    have HLS2 := Lib.hid hls2
                    clear hls2
                    skip
                    have cs := O.facts
                    try simp only [factsP, cellsP, roomP, foots_cons, foots_nil, foots_append, foot_pt, ptb, ptb_mapA, foot_mapA, factsP_mapA, foot_bun, List.append_nil, List.nil_append, List.cons_append, List.nodup_cons, List.nodup_nil, List.mem_cons, List.not_mem_nil, List.mem_singleton, List.forall_mem_cons, not_or, not_false_eq_true, and_true, true_and, or_false, false_or, forall_eq_or_imp, forall_eq, implies_true, Nat.zero_add, Nat.reduceAdd, and_assoc, ptb_mapA, factsP_bun, ptb_bun, upd_listA, upd_mapA, upd_bun, upd_fam, ptb_listA, factsP_listA, Nat.mul_one, ptb_fam, factsP_fam] at cs
                    go_wp2_with fail
                    go_roundw
                    case rel =>
                      refine ⟨k + 1, EntM.mk eb lb eid cl m0 m1 m2 A c s ls2 h4, by omega, by go_num, O, Lib.hid ⟨(HOH2.out ls2 HLS2.out).1, fun e1 => ?_⟩⟩
                      have ha := HA.out
                      rw [if_neg (by omega)] at ha
                      exact heared_next (HOH2.out ls2 HLS2.out).2 (HI.out.2 e1) (by omega) ha
                    case measure => simp [intOf]; omega
                  by_cases hv2 : vv = 2
                  · subst hv2
                    have hrv : readOf (textOf 2) ≠ 0 := by simp [readOf, textOf, ByteArray.toList_eq]
                    have OH := HOH.out hrv
                    have CH := Lib.hid (fun W (hW : Pre W (mgrL mb mp OA oc [EntM.mk eb lb eid cl m0 m1 m2 A c s ls d])) => m_Hear W mb mp OA oc [EntM.mk eb lb eid cl m0 m1 m2 A c s ls d] 0 _ rfl HI.out.1.good (HI.out.1.lnok HND.out) hW yb r f noB (textOf 2) HWF.out)
                    obtain ⟨hh, hhe⟩ : ∃ hh, (EntM.mk eb lb eid cl m0 m1 m2 A c s ls d).hears yb r f noB (textOf 2) = hh := ⟨_, rfl⟩
                    rw [hhe] at OH
                    simp only [hhe] at CH
                    have HOH2 := Lib.hid OH
                    clear OH hhe hrv HOH HSK
                    obtain ⟨h1, h2, h3, h4⟩ := hh
                    have etx : textOf 2 = ⟨#[97]⟩ := rfl
                    have etl : (⟨#[97]⟩ : ByteArray).toList = [97] := by rw [ByteArray.toList_eq]
                    simp only [etx] at CH
                    rw [etx]
                    simp only [Ballot.val, noB, mgrL] at CH
                    clear etx
                    skip
                    have cs := O.facts
                    try simp only [factsP, cellsP, roomP, foots_cons, foots_nil, foots_append, foot_pt, ptb, ptb_mapA, foot_mapA, factsP_mapA, foot_bun, List.append_nil, List.nil_append, List.cons_append, List.nodup_cons, List.nodup_nil, List.mem_cons, List.not_mem_nil, List.mem_singleton, List.forall_mem_cons, not_or, not_false_eq_true, and_true, true_and, or_false, false_or, forall_eq_or_imp, forall_eq, implies_true, Nat.zero_add, Nat.reduceAdd, and_assoc, ptb_mapA, factsP_bun, ptb_bun, upd_listA, upd_mapA, upd_bun, upd_fam, ptb_listA, factsP_listA, Nat.mul_one, ptb_fam, factsP_fam] at cs
                    have v1 := VX.out _ O.fr
                    simp only [roomP, and_assoc] at v1
                    go_upto_region 21 with fail
                    apply region_held_mem [false, false, false, false, true] (by kernel_rfl)
                    case O => repeat' (first | (with_reducible exact O) | (with_reducible apply Mem.drew) | (with_reducible apply Mem.drewN) | (with_reducible apply Mem.ext) | (with_reducible apply Mem.alloc) | (with_reducible apply Mem.setCell) | (simp only [ptb, ptb_upd, foots_cons, List.mem_cons, World.size_alloc, size_ext, World.size_setCell, true_or, or_true, eq_self_iff_true, ptb_mapA, ptb_bun, ptb_listA, ptb_fam]))
                    case' h =>
                      intro wr2 O'
                      (try clear O)
                      have O := O'
                      clear O'
                      (first | simp only [sel, rst, List.cons_append, List.nil_append, World.size_alloc, size_ext, World.size_setCell, size_setMap, World.size_drew, size_drewN, upd, List.set_cons_zero, List.set_cons_succ, if_true, if_false, reduceIte, not_false_eq_true, ne_lt0, ne_lt1, ne_lt2, ne_lt3, ne_lt4, upd_listA, upd_mapA, upd_bun, upd_fam, cs] at O | simp only [sel, rst, List.cons_append, List.nil_append, World.size_alloc, size_ext, World.size_setCell, size_setMap, World.size_drew, size_drewN, upd, List.set_cons_zero, List.set_cons_succ, if_true, if_false, reduceIte, not_false_eq_true, ne_lt0, ne_lt1, ne_lt2, ne_lt3, ne_lt4, upd_listA, upd_mapA, upd_bun, upd_fam] at O | skip)
                      (try clear cs)
                      (try clear v1)
                      (try clear v2)
                      (try clear v3)
                    refine takeH (i := 0) (v := ?v2_1) rfl (by kernel_rfl) (by kernel_rfl) (by kernel_rfl) (fun _ _ _ h => h) (by rfl) ?y2_1 (O.sel [false, false, false, false, true]) ?r2_1
                    case y2_1 =>
                      intro WW hSw
                      (go_simp) <;> (with_reducible rfl)
                    case' r2_1 =>
                      try simp only [Act.put, List.setIfInBounds_toArray, List.set_cons_zero, List.set_cons_succ]
                    refine takeH (i := 1) (v := ?v2_2) rfl (by kernel_rfl) (by kernel_rfl) (by kernel_rfl) (fun _ _ _ h => h) (by rfl) ?y2_2 (O.sel [false, false, false, false, true]) ?r2_2
                    case y2_2 =>
                      intro WW hSw
                      (go_simp) <;> (with_reducible rfl)
                    case' r2_2 =>
                      try simp only [Act.put, List.setIfInBounds_toArray, List.set_cons_zero, List.set_cons_succ]
                    refine takeH (i := 2) (v := ?v2_3) rfl (by kernel_rfl) (by kernel_rfl) (by kernel_rfl) (fun _ _ _ h => h) (by rfl) ?y2_3 (O.sel [false, false, false, false, true]) ?r2_3
                    case y2_3 =>
                      intro WW hSw
                      replace hSw : Mem _ _ WW _ := hSw
                      have cs := hSw.facts
                      simp only [sel, factsP, cellsP, roomP, foots_cons, foots_nil, foots_append, foot_pt, ptb, ptb_mapA, foot_mapA, factsP_mapA, foot_bun, List.append_nil, List.nil_append, List.cons_append, List.nodup_cons, List.nodup_nil, List.mem_cons, List.not_mem_nil, List.mem_singleton, List.forall_mem_cons, not_or, not_false_eq_true, and_true, true_and, or_false, false_or, forall_eq_or_imp, forall_eq, implies_true, Nat.zero_add, Nat.reduceAdd, and_assoc, ptb_mapA, factsP_bun, ptb_bun, upd_listA, upd_mapA, upd_bun, upd_fam, ptb_listA, factsP_listA, Nat.mul_one, ptb_fam, factsP_fam] at cs
                      have v1 := VX.out _ hSw.fr
                      simp only [roomP, and_assoc] at v1
                      (go_simp) <;> (with_reducible rfl)
                    case' r2_3 =>
                      try simp only [Act.put, List.setIfInBounds_toArray, List.set_cons_zero, List.set_cons_succ]
                    refine takeH (i := 3) (v := ?v2_4) rfl (by kernel_rfl) (by kernel_rfl) (by kernel_rfl) (fun _ _ _ h => h) (by rfl) ?y2_4 (O.sel [false, false, false, false, true]) ?r2_4
                    case y2_4 =>
                      intro WW hSw
                      (go_simp) <;> (with_reducible rfl)
                    case' r2_4 =>
                      try simp only [Act.put, List.setIfInBounds_toArray, List.set_cons_zero, List.set_cons_succ]
                    refine takeH (i := 4) (v := ?v2_5) rfl (by kernel_rfl) (by kernel_rfl) (by kernel_rfl) (fun _ _ _ h => h) (by rfl) ?y2_5 (O.sel [false, false, false, false, true]) ?r2_5
                    case y2_5 =>
                      intro WW hSw
                      replace hSw : Mem _ _ WW _ := hSw
                      have cs := hSw.facts
                      simp only [sel, factsP, cellsP, roomP, foots_cons, foots_nil, foots_append, foot_pt, ptb, ptb_mapA, foot_mapA, factsP_mapA, foot_bun, List.append_nil, List.nil_append, List.cons_append, List.nodup_cons, List.nodup_nil, List.mem_cons, List.not_mem_nil, List.mem_singleton, List.forall_mem_cons, not_or, not_false_eq_true, and_true, true_and, or_false, false_or, forall_eq_or_imp, forall_eq, implies_true, Nat.zero_add, Nat.reduceAdd, and_assoc, ptb_mapA, factsP_bun, ptb_bun, upd_listA, upd_mapA, upd_bun, upd_fam, ptb_listA, factsP_listA, Nat.mul_one, ptb_fam, factsP_fam] at cs
                      have v1 := VX.out _ hSw.fr
                      simp only [roomP, and_assoc] at v1
                      (go_simp) <;> (with_reducible rfl)
                    case' r2_5 =>
                      try simp only [Act.put, List.setIfInBounds_toArray, List.set_cons_zero, List.set_cons_succ]
                    refine takeH (i := 5) (v := ?v2_6) rfl (by kernel_rfl) (by kernel_rfl) (by kernel_rfl) (fun _ _ _ h => h) (by rfl) ?y2_6 (O.sel [false, false, false, false, true]) ?r2_6
                    case y2_6 =>
                      intro WW hSw
                      (go_simp) <;> (with_reducible rfl)
                    case' r2_6 =>
                      try simp only [Act.put, List.setIfInBounds_toArray, List.set_cons_zero, List.set_cons_succ]
                    refine takeH (i := 6) (v := ?v2_7) rfl (by kernel_rfl) (by kernel_rfl) (by kernel_rfl) (fun _ _ _ h => h) (by rfl) ?y2_7 (O.sel [false, false, false, false, true]) ?r2_7
                    case y2_7 =>
                      intro WW hSw
                      replace hSw : Mem _ _ WW _ := hSw
                      have cs := hSw.facts
                      simp only [sel, factsP, cellsP, roomP, foots_cons, foots_nil, foots_append, foot_pt, ptb, ptb_mapA, foot_mapA, factsP_mapA, foot_bun, List.append_nil, List.nil_append, List.cons_append, List.nodup_cons, List.nodup_nil, List.mem_cons, List.not_mem_nil, List.mem_singleton, List.forall_mem_cons, not_or, not_false_eq_true, and_true, true_and, or_false, false_or, forall_eq_or_imp, forall_eq, implies_true, Nat.zero_add, Nat.reduceAdd, and_assoc, ptb_mapA, factsP_bun, ptb_bun, upd_listA, upd_mapA, upd_bun, upd_fam, ptb_listA, factsP_listA, Nat.mul_one, ptb_fam, factsP_fam] at cs
                      have v1 := VX.out _ hSw.fr
                      simp only [roomP, and_assoc] at v1
                      (go_simp) <;> (with_reducible rfl)
                    case' r2_7 =>
                      try simp only [Act.put, List.setIfInBounds_toArray, List.set_cons_zero, List.set_cons_succ]
                    refine takeH (i := 7) (v := ?v2_8) rfl (by kernel_rfl) (by kernel_rfl) (by kernel_rfl) (fun _ _ _ h => h) (by rfl) ?y2_8 (O.sel [false, false, false, false, true]) ?r2_8
                    case y2_8 =>
                      intro WW hSw
                      (go_simp) <;> (with_reducible rfl)
                    case' r2_8 =>
                      try simp only [Act.put, List.setIfInBounds_toArray, List.set_cons_zero, List.set_cons_succ]
                    refine takeH (i := 8) (v := ?v2_9) rfl (by kernel_rfl) (by kernel_rfl) (by kernel_rfl) (fun _ _ _ h => h) (by rfl) ?y2_9 (O.sel [false, false, false, false, true]) ?r2_9
                    case y2_9 =>
                      intro WW hSw
                      replace hSw : Mem _ _ WW _ := hSw
                      have cs := hSw.facts
                      simp only [sel, factsP, cellsP, roomP, foots_cons, foots_nil, foots_append, foot_pt, ptb, ptb_mapA, foot_mapA, factsP_mapA, foot_bun, List.append_nil, List.nil_append, List.cons_append, List.nodup_cons, List.nodup_nil, List.mem_cons, List.not_mem_nil, List.mem_singleton, List.forall_mem_cons, not_or, not_false_eq_true, and_true, true_and, or_false, false_or, forall_eq_or_imp, forall_eq, implies_true, Nat.zero_add, Nat.reduceAdd, and_assoc, ptb_mapA, factsP_bun, ptb_bun, upd_listA, upd_mapA, upd_bun, upd_fam, ptb_listA, factsP_listA, Nat.mul_one, ptb_fam, factsP_fam] at cs
                      have v1 := VX.out _ hSw.fr
                      simp only [roomP, and_assoc] at v1
                      (go_simp) <;> (with_reducible rfl)
                    case' r2_9 =>
                      try simp only [Act.put, List.setIfInBounds_toArray, List.set_cons_zero, List.set_cons_succ]
                    refine takeH (i := 9) (v := ?v2_10) rfl (by kernel_rfl) (by kernel_rfl) (by kernel_rfl) (fun _ _ _ h => h) (by rfl) ?y2_10 (O.sel [false, false, false, false, true]) ?r2_10
                    case y2_10 =>
                      intro WW hSw
                      (go_simp) <;> (with_reducible rfl)
                    case' r2_10 =>
                      try simp only [Act.put, List.setIfInBounds_toArray, List.set_cons_zero, List.set_cons_succ]
                    refine takeH (i := 10) (v := ?v2_11) rfl (by kernel_rfl) (by kernel_rfl) (by kernel_rfl) (fun _ _ _ h => h) (by rfl) ?y2_11 (O.sel [false, false, false, false, true]) ?r2_11
                    case y2_11 =>
                      intro WW hSw
                      (go_simp) <;> (with_reducible rfl)
                    case' r2_11 =>
                      try simp only [Act.put, List.setIfInBounds_toArray, List.set_cons_zero, List.set_cons_succ]
                    refine takeH (i := 11) (v := ?v2_12) rfl (by kernel_rfl) (by kernel_rfl) (by kernel_rfl) (fun _ _ _ h => h) (by rfl) ?y2_12 (O.sel [false, false, false, false, true]) ?r2_12
                    case y2_12 =>
                      intro WW hSw
                      (go_simp) <;> (with_reducible rfl)
                    case' r2_12 =>
                      try simp only [Act.put, List.setIfInBounds_toArray, List.set_cons_zero, List.set_cons_succ]
                    refine takeH (i := 12) (v := ?v2_13) rfl (by kernel_rfl) (by kernel_rfl) (by kernel_rfl) (fun _ _ _ h => h) (by rfl) ?y2_13 (O.sel [false, false, false, false, true]) ?r2_13
                    case y2_13 =>
                      intro WW hSw
                      (go_simp) <;> (with_reducible rfl)
                    case' r2_13 =>
                      try simp only [Act.put, List.setIfInBounds_toArray, List.set_cons_zero, List.set_cons_succ]
                    refine takeH (i := 13) (v := ?v2_14) rfl (by kernel_rfl) (by kernel_rfl) (by kernel_rfl) (fun _ _ _ h => h) (by rfl) ?y2_14 (O.sel [false, false, false, false, true]) ?r2_14
                    case y2_14 =>
                      intro WW hSw
                      (go_simp) <;> (with_reducible rfl)
                    case' r2_14 =>
                      try simp only [Act.put, List.setIfInBounds_toArray, List.set_cons_zero, List.set_cons_succ]
                    refine wpAnyH_ready (rs := [14]) (by kernel_rfl) (by simp) ?_
                    refine consH rfl (fun K hK => ?_) AllReadyH.nil
                    have cs := O.facts
                    simp only [factsP, cellsP, roomP, foots_cons, foots_nil, foots_append, foot_pt, ptb, ptb_mapA, foot_mapA, factsP_mapA, foot_bun, List.append_nil, List.nil_append, List.cons_append, List.nodup_cons, List.nodup_nil, List.mem_cons, List.not_mem_nil, List.mem_singleton, List.forall_mem_cons, not_or, not_false_eq_true, and_true, true_and, or_false, false_or, forall_eq_or_imp, forall_eq, implies_true, Nat.zero_add, Nat.reduceAdd, and_assoc, ptb_mapA, factsP_bun, ptb_bun, upd_listA, upd_mapA, upd_bun, upd_fam, ptb_listA, factsP_listA, Nat.mul_one, ptb_fam, factsP_fam] at cs
                    have v1 := VX.out _ O.fr
                    simp only [roomP, and_assoc] at v1
                    go_simp
                    apply Mem.atCall
                    case h => repeat' (first | (with_reducible exact O) | (with_reducible apply Mem.drew) | (with_reducible apply Mem.drewN) | (with_reducible apply Mem.ext) | (with_reducible apply Mem.alloc) | (with_reducible apply Mem.setCell) | (simp only [ptb, ptb_upd, foots_cons, List.mem_cons, World.size_alloc, size_ext, World.size_setCell, true_or, or_true, eq_self_iff_true, ptb_mapA, ptb_bun, ptb_listA, ptb_fam]))
                    intro w2_15 O'
                    (try clear O)
                    have O := O'
                    clear O'
                    (first | simp only [sel, rst, List.cons_append, List.nil_append, World.size_alloc, size_ext, World.size_setCell, size_setMap, World.size_drew, size_drewN, upd, List.set_cons_zero, List.set_cons_succ, if_true, if_false, reduceIte, not_false_eq_true, ne_lt0, ne_lt1, ne_lt2, ne_lt3, ne_lt4, upd_listA, upd_mapA, upd_bun, upd_fam, cs] at O | simp only [sel, rst, List.cons_append, List.nil_append, World.size_alloc, size_ext, World.size_setCell, size_setMap, World.size_drew, size_drewN, upd, List.set_cons_zero, List.set_cons_succ, if_true, if_false, reduceIte, not_false_eq_true, ne_lt0, ne_lt1, ne_lt2, ne_lt3, ne_lt4, upd_listA, upd_mapA, upd_bun, upd_fam] at O | skip)
                    (try clear cs)
                    (try clear v1)
                    (try clear v2)
                    (try clear v3)
                    refine (CH.out _ (O.pre [true, true, true, true, false])).mono ?_
                    rintro e w2_15' ⟨rfl, ls2, hls2, o⟩
                    replace O := O.callp [true, true, true, true, false] o
                    clear o
                    simp only [put, List.cons_append, List.nil_append] at O
                    go_wp2_with fail
                    refine hK.out _ _ (O.sel [false, false, false, false, true]) (fun _ => ?_)
                    clear hK K
                    refine wpAnyH_done (by kernel_rfl) ?_ _
                    simp only [List.set_cons_zero] at O
                    have HLS2 := Lib.hid hls2
                    clear hls2
                    skip
                    have cs := O.facts
                    try simp only [factsP, cellsP, roomP, foots_cons, foots_nil, foots_append, foot_pt, ptb, ptb_mapA, foot_mapA, factsP_mapA, foot_bun, List.append_nil, List.nil_append, List.cons_append, List.nodup_cons, List.nodup_nil, List.mem_cons, List.not_mem_nil, List.mem_singleton, List.forall_mem_cons, not_or, not_false_eq_true, and_true, true_and, or_false, false_or, forall_eq_or_imp, forall_eq, implies_true, Nat.zero_add, Nat.reduceAdd, and_assoc, ptb_mapA, factsP_bun, ptb_bun, upd_listA, upd_mapA, upd_bun, upd_fam, ptb_listA, factsP_listA, Nat.mul_one, ptb_fam, factsP_fam] at cs
                    go_wp2_with fail
                    go_roundw
                    case rel =>
                      refine ⟨k + 1, EntM.mk eb lb eid cl m0 m1 m2 A c s ls2 h4, by omega, by go_num, O, Lib.hid ⟨(HOH2.out ls2 HLS2.out).1, fun e1 => ?_⟩⟩
                      have ha := HA.out
                      rw [if_neg (by omega)] at ha
                      exact heared_next (HOH2.out ls2 HLS2.out).2 (HI.out.2 e1) (by omega) ha
                    case measure => simp [intOf]; omega
                  have etx : textOf vv = ⟨#[]⟩ := by simp [textOf, hv1, hv2]
                  have etl : (⟨#[]⟩ : ByteArray).toList = [] := by rw [ByteArray.toList_eq]
                  have hrv : readOf (textOf vv) = 0 := by rw [etx]; simp [readOf, ByteArray.toList_eq]
                  have HSK2 := Lib.hid (HSK.out hrv)
                  rw [etx]
                  clear etx hrv HSK HOH hv1 hv2
                  skip
                  have cs := O.facts
                  try simp only [factsP, cellsP, roomP, foots_cons, foots_nil, foots_append, foot_pt, ptb, ptb_mapA, foot_mapA, factsP_mapA, foot_bun, List.append_nil, List.nil_append, List.cons_append, List.nodup_cons, List.nodup_nil, List.mem_cons, List.not_mem_nil, List.mem_singleton, List.forall_mem_cons, not_or, not_false_eq_true, and_true, true_and, or_false, false_or, forall_eq_or_imp, forall_eq, implies_true, Nat.zero_add, Nat.reduceAdd, and_assoc, ptb_mapA, factsP_bun, ptb_bun, upd_listA, upd_mapA, upd_bun, upd_fam, ptb_listA, factsP_listA, Nat.mul_one, ptb_fam, factsP_fam] at cs
                  go_wp2_with fail
                  go_roundw
                  case rel =>
                    refine ⟨k + 1, EntM.mk eb lb eid cl m0 m1 m2 A c s ls d, by omega, by go_num, O, Lib.hid ⟨HI.out.1, fun e1 => ?_⟩⟩
                    have ha := HA.out
                    rw [if_neg (by omega)] at ha
                    refine heared_next (P := Heared eid s fr (plnOf ls)) (Q := Heared eid s fr (plnOf ls)) (fun m hm => ⟨hm, fun e2 => ?_⟩) (HI.out.2 e1) (by omega) ha
                    subst e2
                    exact HSK2.out hm
                  case measure => simp [intOf]; omega
      · obtain rfl : turn = 2 := by omega
        obtain ⟨eb, lb, eid, cl, m0, m1, m2, A, c, s, ls, d⟩ := E
        obtain rfl : eid = tid := HI.out.1.id
        have hcore := HI.out.1.core
        simp only at hcore
        have hsn : s.length = n := by rw [core_len hcore]; exact HN.out
        obtain ⟨dd, hdd⟩ : ∃ dd, dd = decide18 true n n fr (incsOf (ts.map ItS.r)) := ⟨_, rfl⟩
        have hfin : dd.2 = 0 → d = dd.1 := by
          intro h0
          have hinc : ∀ i k, i < n → incsOf (s.map ItS.r) i k = incsOf (ts.map ItS.r) i k := by
            intro i k hi
            obtain ⟨x, hx⟩ : ∃ x, ts[i]? = some x := ⟨_, List.getElem?_eq_getElem (by rw [HN.out]; exact hi)⟩
            obtain ⟨y, hy, hyc⟩ := core_get hcore hx
            rw [incs_at hx, incs_at hy, (core_right hyc).2.2]
          have he : decide18 true s.length s.length fr (incsOf (s.map ItS.r)) = dd := by
            rw [hdd, hsn]
            have hp : prep fr (incsOf (s.map ItS.r)) n = prep fr (incsOf (ts.map ItS.r)) n := by
              rw [Bool.eq_iff_iff, prep_iff, prep_iff]
              have : ∀ i, i < n → incsOf (s.map ItS.r) i = incsOf (ts.map ItS.r) i := fun i hi => funext (fun k => hinc i k hi)
              exact ⟨fun q i hi => by rw [← this i hi]; exact q i hi, fun q i hi => by rw [this i hi]; exact q i hi⟩
            have hs : sunk fr (incsOf (s.map ItS.r)) n = sunk fr (incsOf (ts.map ItS.r)) n := by
              rw [Bool.eq_iff_iff, sunk_iff, sunk_iff]
              have : ∀ i, i < n → incsOf (s.map ItS.r) i = incsOf (ts.map ItS.r) i := fun i hi => funext (fun k => hinc i k hi)
              exact ⟨fun ⟨i, hi, q⟩ => ⟨i, hi, by rw [← this i hi]; exact q⟩, fun ⟨i, hi, q⟩ => ⟨i, hi, by rw [this i hi]; exact q⟩⟩
            unfold decide18
            rw [hp, hs]
          have hH : Heared eid s fr (plnOf ls) (8 * s.length) := by
            have := HI.out.2 rfl
            rw [hN8] at this
            rw [hsn]
            exact this
          have := HI.out.1.ord.end_ HI.out.1.kn hH (by simp only; rw [he]; exact h0)
          simp only at this
          rw [this, he]
        rw [← hdd] at CDD
        have HFIN := Lib.hid hfin
        clear hfin hdd hcore hsn
        obtain ⟨d1, d2⟩ := dd
        simp only at CDD HFIN
        have CE := Lib.hid (fun W (hW : Pre W (mgrL mb mp OA oc [EntM.mk eb lb eid cl m0 m1 m2 A c s ls d])) => m_Decision W mb mp OA oc [EntM.mk eb lb eid cl m0 m1 m2 A c s ls d] 0 _ rfl HI.out.1.good.id hW)
        simp only [mgrL] at CE
        simp only [mgrL, List.cons_append, List.nil_append] at O
        skip
        have cs := O.facts
        try simp only [factsP, cellsP, roomP, foots_cons, foots_nil, foots_append, foot_pt, ptb, ptb_mapA, foot_mapA, factsP_mapA, foot_bun, List.append_nil, List.nil_append, List.cons_append, List.nodup_cons, List.nodup_nil, List.mem_cons, List.not_mem_nil, List.mem_singleton, List.forall_mem_cons, not_or, not_false_eq_true, and_true, true_and, or_false, false_or, forall_eq_or_imp, forall_eq, implies_true, Nat.zero_add, Nat.reduceAdd, and_assoc, ptb_mapA, factsP_bun, ptb_bun, upd_listA, upd_mapA, upd_bun, upd_fam, ptb_listA, factsP_listA, Nat.mul_one, ptb_fam, factsP_fam] at cs
        go_wp2_with fail
        first | apply Mem.atCall | apply Mem.atCode | apply Mem.atList
        case h => repeat' (first | (with_reducible exact O) | (with_reducible apply Mem.drew) | (with_reducible apply Mem.drewN) | (with_reducible apply Mem.ext) | (with_reducible apply Mem.alloc) | (with_reducible apply Mem.setCell) | (simp only [ptb, ptb_upd, foots_cons, List.mem_cons, World.size_alloc, size_ext, World.size_setCell, true_or, or_true, eq_self_iff_true, ptb_mapA, ptb_bun, ptb_listA, ptb_fam]))
        case' k =>
          intro xa O'
          (try clear O)
          have O := O'
          clear O'
          (first | simp only [sel, rst, List.cons_append, List.nil_append, World.size_alloc, size_ext, World.size_setCell, size_setMap, World.size_drew, size_drewN, upd, List.set_cons_zero, List.set_cons_succ, if_true, if_false, reduceIte, not_false_eq_true, ne_lt0, ne_lt1, ne_lt2, ne_lt3, ne_lt4, upd_listA, upd_mapA, upd_bun, upd_fam, cs] at O | simp only [sel, rst, List.cons_append, List.nil_append, World.size_alloc, size_ext, World.size_setCell, size_setMap, World.size_drew, size_drewN, upd, List.set_cons_zero, List.set_cons_succ, if_true, if_false, reduceIte, not_false_eq_true, ne_lt0, ne_lt1, ne_lt2, ne_lt3, ne_lt4, upd_listA, upd_mapA, upd_bun, upd_fam] at O | skip)
          (try clear cs)
          (try clear v1)
          (try clear v2)
          (try clear v3)
        refine (CDD.out _ O.fr).mono ?_
        rintro e xb ⟨rfl, o⟩
        replace O := O.callp [] o
        clear o
        simp only [put, List.cons_append, List.nil_append] at O
        have cs := O.facts
        try simp only [factsP, cellsP, roomP, foots_cons, foots_nil, foots_append, foot_pt, ptb, ptb_mapA, foot_mapA, factsP_mapA, foot_bun, List.append_nil, List.nil_append, List.cons_append, List.nodup_cons, List.nodup_nil, List.mem_cons, List.not_mem_nil, List.mem_singleton, List.forall_mem_cons, not_or, not_false_eq_true, and_true, true_and, or_false, false_or, forall_eq_or_imp, forall_eq, implies_true, Nat.zero_add, Nat.reduceAdd, and_assoc, ptb_mapA, factsP_bun, ptb_bun, upd_listA, upd_mapA, upd_bun, upd_fam, ptb_listA, factsP_listA, Nat.mul_one, ptb_fam, factsP_fam] at cs
        go_wp2_with fail
        first | apply Mem.atCall | apply Mem.atCode | apply Mem.atList
        case h => repeat' (first | (with_reducible exact O) | (with_reducible apply Mem.drew) | (with_reducible apply Mem.drewN) | (with_reducible apply Mem.ext) | (with_reducible apply Mem.alloc) | (with_reducible apply Mem.setCell) | (simp only [ptb, ptb_upd, foots_cons, List.mem_cons, World.size_alloc, size_ext, World.size_setCell, true_or, or_true, eq_self_iff_true, ptb_mapA, ptb_bun, ptb_listA, ptb_fam]))
        case' k =>
          intro xc O'
          (try clear O)
          have O := O'
          clear O'
          (first | simp only [sel, rst, List.cons_append, List.nil_append, World.size_alloc, size_ext, World.size_setCell, size_setMap, World.size_drew, size_drewN, upd, List.set_cons_zero, List.set_cons_succ, if_true, if_false, reduceIte, not_false_eq_true, ne_lt0, ne_lt1, ne_lt2, ne_lt3, ne_lt4, upd_listA, upd_mapA, upd_bun, upd_fam, cs] at O | simp only [sel, rst, List.cons_append, List.nil_append, World.size_alloc, size_ext, World.size_setCell, size_setMap, World.size_drew, size_drewN, upd, List.set_cons_zero, List.set_cons_succ, if_true, if_false, reduceIte, not_false_eq_true, ne_lt0, ne_lt1, ne_lt2, ne_lt3, ne_lt4, upd_listA, upd_mapA, upd_bun, upd_fam] at O | skip)
          (try clear cs)
          (try clear v1)
          (try clear v2)
          (try clear v3)
        refine (CE.out _ (O.pre [true, true, true, true])).mono ?_
        rintro e xd ⟨rfl, o⟩
        replace O := O.callp [] o
        clear o
        simp only [put, List.nil_append] at O
        by_cases h0 : d2 = 0
        · have h1 := HFIN.out h0
          subst h0 h1
          have cs := O.facts
          try simp only [factsP, cellsP, roomP, foots_cons, foots_nil, foots_append, foot_pt, ptb, ptb_mapA, foot_mapA, factsP_mapA, foot_bun, List.append_nil, List.nil_append, List.cons_append, List.nodup_cons, List.nodup_nil, List.mem_cons, List.not_mem_nil, List.mem_singleton, List.forall_mem_cons, not_or, not_false_eq_true, and_true, true_and, or_false, false_or, forall_eq_or_imp, forall_eq, implies_true, Nat.zero_add, Nat.reduceAdd, and_assoc, ptb_mapA, factsP_bun, ptb_bun, upd_listA, upd_mapA, upd_bun, upd_fam, ptb_listA, factsP_listA, Nat.mul_one, ptb_fam, factsP_fam] at cs
          go_wp2_with fail
          go_ret
          exact ⟨rfl, O.fr0.fr.below rfl⟩
        · have h0' : (d2 == 0) = false := by simpa using h0
          have h0'' : (d2 != 0) = true := by simpa using h0
          clear h0
          have cs := O.facts
          try simp only [factsP, cellsP, roomP, foots_cons, foots_nil, foots_append, foot_pt, ptb, ptb_mapA, foot_mapA, factsP_mapA, foot_bun, List.append_nil, List.nil_append, List.cons_append, List.nodup_cons, List.nodup_nil, List.mem_cons, List.not_mem_nil, List.mem_singleton, List.forall_mem_cons, not_or, not_false_eq_true, and_true, true_and, or_false, false_or, forall_eq_or_imp, forall_eq, implies_true, Nat.zero_add, Nat.reduceAdd, and_assoc, ptb_mapA, factsP_bun, ptb_bun, upd_listA, upd_mapA, upd_bun, upd_fam, ptb_listA, factsP_listA, Nat.mul_one, ptb_fam, factsP_fam] at cs
          go_wp2_with fail
          go_ret
          exact ⟨rfl, O.fr0.fr.below rfl⟩
end Go.Proofs.Ytplliabmnhigbaa
