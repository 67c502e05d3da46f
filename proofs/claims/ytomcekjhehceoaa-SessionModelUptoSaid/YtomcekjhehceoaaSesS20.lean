/- WALK: Scan. -/
import Derived.Test.YtomcekjhehceoaaSesE20
set_option linter.unusedVariables false
set_option linter.unusedSimpArgs false
namespace Go.Proofs.Ytomcekjhehceoaa
open Go.RowKit Go.Tk
def inR (lo hi : ByteArray) (e : En) : Bool := !ltK e.1 lo && !ltK hi e.1
def fltR (lo hi : ByteArray) (l : List En) : List En := l.filter (inR lo hi)
def scanN (ps : List LogP) (lo hi : ByteArray) (a : Nat) : Nat → List En
  | 0 => []
  | j + 1 => scanN ps lo hi a j ++ fltR lo hi (nowP ps ((a + j : Nat) : Int))
def scanP (ps : List LogP) (lo hi : ByteArray) : List En := scanN ps lo hi (bucketOf lo) (bucketOf hi + 1 - bucketOf lo)
def hasN (ps : List LogP) (a n : Nat) : Bool := (List.range n).all (fun j => hasP ps ((a + j : Nat) : Int))
def codeScan (done : Bool) (ps : List LogP) (lo hi : ByteArray) : Int :=
  if done = true then 201 else if mayKey lo = false ∨ mayKey hi = false then 11 else if ltK hi lo = true then 1 else if hasN ps (bucketOf lo) (bucketOf hi + 1 - bucketOf lo) = false then 202 else 0
def scanS (done : Bool) (ps : List LogP) (lo hi : ByteArray) : List En := if codeScan done ps lo hi = 0 then scanP ps lo hi else []
set_option maxRecDepth 100000 in
theorem q_Span (lo hi : ByteArray) (w : World) (h1 : lo.size ≤ 1048576) (h2 : hi.size ≤ 1048576) : Calls Try.prog 38 #[.string lo, .string hi] w (fun e w' => e = .returned (if ltK hi lo = true then .tuple #[.int .i64 0, .int .i64 0, .int .i64 1] else .tuple #[.int .i64 (bucketOf lo), .int .i64 (bucketOf hi), .int .i64 0]) ∧ Mem w [] w' []) := by
  have O : Mem w [] w [] := Mem.begin
  have C1 := Lib.hid (fun W => q_KeyBucket lo W h1)
  have C2 := Lib.hid (fun W => q_KeyBucket hi W h2)
  generalize bucketOf lo = a at *
  generalize bucketOf hi = b at *
  by_cases hl : ltK hi lo = true
  · have e1 : Op.bytesLess lo.toList hi.toList = false := ltK_asym hl
    have e2 : (lo.toList == hi.toList) = false := by
      rw [beq_eq_false_iff_ne]
      exact fun e => ltK_ne hl (ba_ext e.symm)
    rw [if_pos hl]
    clear hl
    go_enter Try.func38, Try.ntmps38
    have cs := O.facts
    try simp only [factsP, cellsP, roomP, foots_cons, foots_nil, foots_append, foot_pt, ptb, ptb_mapA, foot_mapA, factsP_mapA, foot_bun, List.append_nil, List.nil_append, List.cons_append, List.nodup_cons, List.nodup_nil, List.mem_cons, List.not_mem_nil, List.mem_singleton, List.forall_mem_cons, not_or, not_false_eq_true, and_true, true_and, or_false, false_or, forall_eq_or_imp, forall_eq, implies_true, Nat.zero_add, Nat.reduceAdd, and_assoc, upd_listA, upd_mapA, upd_bun, upd_fam, ptb_listA, factsP_listA, factsP_mapA, ptb_mapA, Nat.mul_one, factsP_bun, ptb_bun, ptb_fam, factsP_fam, factsP_errA, ptb_errA, upd_errA, entCells] at cs
    go_wp2_with fail
    refine bodyPost_ret (v := .tuple #[.int .i64 0, .int .i64 0, .int .i64 1]) (by simp [results, Try.results38, go_sem]) rfl ⟨rfl, O⟩
  · rw [if_neg hl]
    have e1 : (Op.bytesLess lo.toList hi.toList || lo.toList == hi.toList) = true := by
      cases h3 : Op.bytesLess lo.toList hi.toList with
      | true => rfl
      | false =>
        have : lo = hi := ltK_tri h3 (by simpa using hl)
        rw [this]; simp
    have e2 : Op.bytesLess lo.toList hi.toList = true ∨ lo.toList = hi.toList := by simpa using e1
    clear hl
    go_enter Try.func38, Try.ntmps38
    have cs := O.facts
    try simp only [factsP, cellsP, roomP, foots_cons, foots_nil, foots_append, foot_pt, ptb, ptb_mapA, foot_mapA, factsP_mapA, foot_bun, List.append_nil, List.nil_append, List.cons_append, List.nodup_cons, List.nodup_nil, List.mem_cons, List.not_mem_nil, List.mem_singleton, List.forall_mem_cons, not_or, not_false_eq_true, and_true, true_and, or_false, false_or, forall_eq_or_imp, forall_eq, implies_true, Nat.zero_add, Nat.reduceAdd, and_assoc, upd_listA, upd_mapA, upd_bun, upd_fam, ptb_listA, factsP_listA, factsP_mapA, ptb_mapA, Nat.mul_one, factsP_bun, ptb_bun, ptb_fam, factsP_fam, factsP_errA, ptb_errA, upd_errA, entCells] at cs
    go_wp2_with fail
    refine (C1.out _).mono ?_
    rintro e w1 ⟨rfl, o⟩
    replace O := O.callp [] o
    clear o
    simp only [put, List.cons_append, List.nil_append] at O
    have cs := O.facts
    try simp only [factsP, cellsP, roomP, foots_cons, foots_nil, foots_append, foot_pt, ptb, ptb_mapA, foot_mapA, factsP_mapA, foot_bun, List.append_nil, List.nil_append, List.cons_append, List.nodup_cons, List.nodup_nil, List.mem_cons, List.not_mem_nil, List.mem_singleton, List.forall_mem_cons, not_or, not_false_eq_true, and_true, true_and, or_false, false_or, forall_eq_or_imp, forall_eq, implies_true, Nat.zero_add, Nat.reduceAdd, and_assoc, upd_listA, upd_mapA, upd_bun, upd_fam, ptb_listA, factsP_listA, factsP_mapA, ptb_mapA, Nat.mul_one, factsP_bun, ptb_bun, ptb_fam, factsP_fam, factsP_errA, ptb_errA, upd_errA, entCells] at cs
    go_wp2_with fail
    refine (C2.out _).mono ?_
    rintro e w2 ⟨rfl, o⟩
    replace O := O.callp [] o
    clear o
    simp only [put, List.cons_append, List.nil_append] at O
    have cs := O.facts
    try simp only [factsP, cellsP, roomP, foots_cons, foots_nil, foots_append, foot_pt, ptb, ptb_mapA, foot_mapA, factsP_mapA, foot_bun, List.append_nil, List.nil_append, List.cons_append, List.nodup_cons, List.nodup_nil, List.mem_cons, List.not_mem_nil, List.mem_singleton, List.forall_mem_cons, not_or, not_false_eq_true, and_true, true_and, or_false, false_or, forall_eq_or_imp, forall_eq, implies_true, Nat.zero_add, Nat.reduceAdd, and_assoc, upd_listA, upd_mapA, upd_bun, upd_fam, ptb_listA, factsP_listA, factsP_mapA, ptb_mapA, Nat.mul_one, factsP_bun, ptb_bun, ptb_fam, factsP_fam, factsP_errA, ptb_errA, upd_errA, entCells] at cs
    go_wp2_with fail
    refine bodyPost_ret (v := .tuple #[.int .i64 a, .int .i64 b, .int .i64 0]) (by simp [results, Try.results38, go_sem]) rfl ⟨rfl, O⟩
theorem geT (a b : ByteArray) : (!Op.bytesLess a.toList b.toList) = !ltK a b := rfl
theorem leT (a b : ByteArray) : (Op.bytesLess a.toList b.toList || a.toList == b.toList) = !ltK b a := by
  cases h : ltK b a with
  | true =>
    have h1 : Op.bytesLess a.toList b.toList = false := ltK_asym h
    have h2 : (a.toList == b.toList) = false := by
      rw [beq_eq_false_iff_ne]
      exact fun e => ltK_ne h (ba_ext e.symm)
    rw [h1, h2]; rfl
  | false =>
    cases h3 : Op.bytesLess a.toList b.toList with
    | true => rfl
    | false =>
      have : a = b := ltK_tri h3 h
      rw [this]; simp
set_option maxRecDepth 100000 in
set_option maxHeartbeats 8000000 in
theorem s_Scan (w : World) (S : SesH) (done : Bool) (ls : List LogM) (lo hi : ByteArray) (h1 : lo.size ≤ 1048576) (h2 : hi.size ≤ 1048576) (hok : LogsOk ls) (h : Pre w (sesL S done ls)) :
    Calls Try.prog 21 #[S.val, .string lo, .string hi] w (fun r w' => ∃ q A c, r = .returned (.tuple #[.slice A (scanS done (ls.map LogM.p) lo hi).length c, errV q]) ∧ ErrIs q (codeScan done (ls.map LogM.p) lo hi) ∧ Mem w [] w' [entsA A c (scanS done (ls.map LogM.p) lo hi), errA q (codeScan done (ls.map LogM.p) lo hi) nScan]) := by
  obtain ⟨r, hr⟩ : ∃ r, r = scanS done (ls.map LogM.p) lo hi := ⟨_, rfl⟩
  obtain ⟨cd, hcd⟩ : ∃ c, c = codeScan done (ls.map LogM.p) lo hi := ⟨_, rfl⟩
  unfold scanS at hr
  rw [← hcd] at hr
  have hr' : r = scanS done (ls.map LogM.p) lo hi := by unfold scanS; rw [← hcd]; exact hr
  rw [← hcd, ← hr']
  clear hr'
  have H := Lib.hid h
  have O : Mem w [] w [] := Mem.begin
  have CO := Lib.hid (fun W (hW : Pre W (sesL S done ls)) => s_open W S done ls hW)
  have K1 := Lib.hid (fun W => q_MayKey lo W h1)
  have K2 := Lib.hid (fun W => q_MayKey hi W h2)
  have CS := Lib.hid (fun W => q_Span lo hi W h1 h2)
  have CF := Lib.hid (fun e (he : e ≠ 0) W => s_fault_e W nScan e he)
  unfold nScan at CF
  have SV : S.val = .pointer (some ⟨S.sb, 0, none⟩) := rfl
  rw [SV] at CO ⊢
  unfold codeScan at hcd
  cases done with
  | true =>
    simp only [if_true] at hcd CO
    subst hcd
    rw [if_neg (by decide)] at hr
    subst hr
    have CF1 := Lib.hid (fun W => CF.out 201 (by decide) W)
    skip
    go_enter Try.func21, Try.ntmps21
    have cs := O.facts
    try simp only [factsP, cellsP, roomP, foots_cons, foots_nil, foots_append, foot_pt, ptb, ptb_mapA, foot_mapA, factsP_mapA, foot_bun, List.append_nil, List.nil_append, List.cons_append, List.nodup_cons, List.nodup_nil, List.mem_cons, List.not_mem_nil, List.mem_singleton, List.forall_mem_cons, not_or, not_false_eq_true, and_true, true_and, or_false, false_or, forall_eq_or_imp, forall_eq, implies_true, Nat.zero_add, Nat.reduceAdd, and_assoc, upd_listA, upd_mapA, upd_bun, upd_fam, ptb_listA, factsP_listA, factsP_mapA, ptb_mapA, Nat.mul_one, factsP_bun, ptb_bun, ptb_fam, factsP_fam, factsP_errA, ptb_errA, upd_errA, entCells] at cs
    go_wp2_with fail
    refine (CO.out _ (H.out.view O.fr)).mono ?_
    rintro e w1 ⟨rfl, o⟩
    replace O := O.callp [] o
    clear o
    simp only [put, List.cons_append, List.nil_append] at O
    have cs := O.facts
    try simp only [factsP, cellsP, roomP, foots_cons, foots_nil, foots_append, foot_pt, ptb, ptb_mapA, foot_mapA, factsP_mapA, foot_bun, List.append_nil, List.nil_append, List.cons_append, List.nodup_cons, List.nodup_nil, List.mem_cons, List.not_mem_nil, List.mem_singleton, List.forall_mem_cons, not_or, not_false_eq_true, and_true, true_and, or_false, false_or, forall_eq_or_imp, forall_eq, implies_true, Nat.zero_add, Nat.reduceAdd, and_assoc, upd_listA, upd_mapA, upd_bun, upd_fam, ptb_listA, factsP_listA, factsP_mapA, ptb_mapA, Nat.mul_one, factsP_bun, ptb_bun, ptb_fam, factsP_fam, factsP_errA, ptb_errA, upd_errA, entCells] at cs
    go_wp2_with fail
    refine (CF1.out _).mono ?_
    rintro e w3 ⟨fb, rfl, o⟩
    replace O := O.callp [] o
    clear o
    simp only [put, List.cons_append, List.nil_append] at O
    have cs := O.facts
    try simp only [factsP, cellsP, roomP, foots_cons, foots_nil, foots_append, foot_pt, ptb, ptb_mapA, foot_mapA, factsP_mapA, foot_bun, List.append_nil, List.nil_append, List.cons_append, List.nodup_cons, List.nodup_nil, List.mem_cons, List.not_mem_nil, List.mem_singleton, List.forall_mem_cons, not_or, not_false_eq_true, and_true, true_and, or_false, false_or, forall_eq_or_imp, forall_eq, implies_true, Nat.zero_add, Nat.reduceAdd, and_assoc, upd_listA, upd_mapA, upd_bun, upd_fam, ptb_listA, factsP_listA, factsP_mapA, ptb_mapA, Nat.mul_one, factsP_bun, ptb_bun, ptb_fam, factsP_fam, factsP_errA, ptb_errA, upd_errA, entCells] at cs
    go_wp2_with fail
    refine bodyPost_ret (v := .tuple #[.slice none 0 0, errV (some fb)]) (by first | (simp [results, Try.results21, go_sem]; done) | (simp [results, Try.results21, go_sem]; rfl)) rfl ⟨some fb, none, 0, rfl, ErrIs.fault (by decide), O.listNil⟩
  | false =>
    simp only [Bool.false_eq_true, if_false] at hcd CO
    obtain ⟨b1, hb1⟩ : ∃ b, b = mayKey lo := ⟨_, rfl⟩
    obtain ⟨b2, hb2⟩ : ∃ b, b = mayKey hi := ⟨_, rfl⟩
    rw [← hb1] at K1 hcd
    rw [← hb2] at K2 hcd
    clear hb1 hb2
    by_cases hm : b1 = false ∨ b2 = false
    · rw [if_pos hm] at hcd
      subst hcd
      rw [if_neg (by decide)] at hr
      subst hr
      have CF1 := Lib.hid (fun W => CF.out 11 (by decide) W)
      skip
      cases b1 with
      | false =>
        go_enter Try.func21, Try.ntmps21
        have cs := O.facts
        try simp only [factsP, cellsP, roomP, foots_cons, foots_nil, foots_append, foot_pt, ptb, ptb_mapA, foot_mapA, factsP_mapA, foot_bun, List.append_nil, List.nil_append, List.cons_append, List.nodup_cons, List.nodup_nil, List.mem_cons, List.not_mem_nil, List.mem_singleton, List.forall_mem_cons, not_or, not_false_eq_true, and_true, true_and, or_false, false_or, forall_eq_or_imp, forall_eq, implies_true, Nat.zero_add, Nat.reduceAdd, and_assoc, upd_listA, upd_mapA, upd_bun, upd_fam, ptb_listA, factsP_listA, factsP_mapA, ptb_mapA, Nat.mul_one, factsP_bun, ptb_bun, ptb_fam, factsP_fam, factsP_errA, ptb_errA, upd_errA, entCells] at cs
        go_wp2_with fail
        refine (CO.out _ (H.out.view O.fr)).mono ?_
        rintro e w1 ⟨rfl, o⟩
        replace O := O.callp [] o
        clear o
        simp only [put, List.cons_append, List.nil_append] at O
        have cs := O.facts
        try simp only [factsP, cellsP, roomP, foots_cons, foots_nil, foots_append, foot_pt, ptb, ptb_mapA, foot_mapA, factsP_mapA, foot_bun, List.append_nil, List.nil_append, List.cons_append, List.nodup_cons, List.nodup_nil, List.mem_cons, List.not_mem_nil, List.mem_singleton, List.forall_mem_cons, not_or, not_false_eq_true, and_true, true_and, or_false, false_or, forall_eq_or_imp, forall_eq, implies_true, Nat.zero_add, Nat.reduceAdd, and_assoc, upd_listA, upd_mapA, upd_bun, upd_fam, ptb_listA, factsP_listA, factsP_mapA, ptb_mapA, Nat.mul_one, factsP_bun, ptb_bun, ptb_fam, factsP_fam, factsP_errA, ptb_errA, upd_errA, entCells] at cs
        go_wp2_with fail
        refine (K1.out _).mono ?_
        rintro e w2 ⟨rfl, o⟩
        replace O := O.callp [] o
        clear o
        simp only [put, List.cons_append, List.nil_append] at O
        have cs := O.facts
        try simp only [factsP, cellsP, roomP, foots_cons, foots_nil, foots_append, foot_pt, ptb, ptb_mapA, foot_mapA, factsP_mapA, foot_bun, List.append_nil, List.nil_append, List.cons_append, List.nodup_cons, List.nodup_nil, List.mem_cons, List.not_mem_nil, List.mem_singleton, List.forall_mem_cons, not_or, not_false_eq_true, and_true, true_and, or_false, false_or, forall_eq_or_imp, forall_eq, implies_true, Nat.zero_add, Nat.reduceAdd, and_assoc, upd_listA, upd_mapA, upd_bun, upd_fam, ptb_listA, factsP_listA, factsP_mapA, ptb_mapA, Nat.mul_one, factsP_bun, ptb_bun, ptb_fam, factsP_fam, factsP_errA, ptb_errA, upd_errA, entCells] at cs
        go_wp2_with fail
        refine (CF1.out _).mono ?_
        rintro e w3 ⟨fb, rfl, o⟩
        replace O := O.callp [] o
        clear o
        simp only [put, List.cons_append, List.nil_append] at O
        have cs := O.facts
        try simp only [factsP, cellsP, roomP, foots_cons, foots_nil, foots_append, foot_pt, ptb, ptb_mapA, foot_mapA, factsP_mapA, foot_bun, List.append_nil, List.nil_append, List.cons_append, List.nodup_cons, List.nodup_nil, List.mem_cons, List.not_mem_nil, List.mem_singleton, List.forall_mem_cons, not_or, not_false_eq_true, and_true, true_and, or_false, false_or, forall_eq_or_imp, forall_eq, implies_true, Nat.zero_add, Nat.reduceAdd, and_assoc, upd_listA, upd_mapA, upd_bun, upd_fam, ptb_listA, factsP_listA, factsP_mapA, ptb_mapA, Nat.mul_one, factsP_bun, ptb_bun, ptb_fam, factsP_fam, factsP_errA, ptb_errA, upd_errA, entCells] at cs
        go_wp2_with fail
        refine bodyPost_ret (v := .tuple #[.slice none 0 0, errV (some fb)]) (by first | (simp [results, Try.results21, go_sem]; done) | (simp [results, Try.results21, go_sem]; rfl)) rfl ⟨some fb, none, 0, rfl, ErrIs.fault (by decide), O.listNil⟩
      | true =>
        obtain rfl : b2 = false := by simpa using hm
        go_enter Try.func21, Try.ntmps21
        have cs := O.facts
        try simp only [factsP, cellsP, roomP, foots_cons, foots_nil, foots_append, foot_pt, ptb, ptb_mapA, foot_mapA, factsP_mapA, foot_bun, List.append_nil, List.nil_append, List.cons_append, List.nodup_cons, List.nodup_nil, List.mem_cons, List.not_mem_nil, List.mem_singleton, List.forall_mem_cons, not_or, not_false_eq_true, and_true, true_and, or_false, false_or, forall_eq_or_imp, forall_eq, implies_true, Nat.zero_add, Nat.reduceAdd, and_assoc, upd_listA, upd_mapA, upd_bun, upd_fam, ptb_listA, factsP_listA, factsP_mapA, ptb_mapA, Nat.mul_one, factsP_bun, ptb_bun, ptb_fam, factsP_fam, factsP_errA, ptb_errA, upd_errA, entCells] at cs
        go_wp2_with fail
        refine (CO.out _ (H.out.view O.fr)).mono ?_
        rintro e w1 ⟨rfl, o⟩
        replace O := O.callp [] o
        clear o
        simp only [put, List.cons_append, List.nil_append] at O
        have cs := O.facts
        try simp only [factsP, cellsP, roomP, foots_cons, foots_nil, foots_append, foot_pt, ptb, ptb_mapA, foot_mapA, factsP_mapA, foot_bun, List.append_nil, List.nil_append, List.cons_append, List.nodup_cons, List.nodup_nil, List.mem_cons, List.not_mem_nil, List.mem_singleton, List.forall_mem_cons, not_or, not_false_eq_true, and_true, true_and, or_false, false_or, forall_eq_or_imp, forall_eq, implies_true, Nat.zero_add, Nat.reduceAdd, and_assoc, upd_listA, upd_mapA, upd_bun, upd_fam, ptb_listA, factsP_listA, factsP_mapA, ptb_mapA, Nat.mul_one, factsP_bun, ptb_bun, ptb_fam, factsP_fam, factsP_errA, ptb_errA, upd_errA, entCells] at cs
        go_wp2_with fail
        refine (K1.out _).mono ?_
        rintro e w2 ⟨rfl, o⟩
        replace O := O.callp [] o
        clear o
        simp only [put, List.cons_append, List.nil_append] at O
        have cs := O.facts
        try simp only [factsP, cellsP, roomP, foots_cons, foots_nil, foots_append, foot_pt, ptb, ptb_mapA, foot_mapA, factsP_mapA, foot_bun, List.append_nil, List.nil_append, List.cons_append, List.nodup_cons, List.nodup_nil, List.mem_cons, List.not_mem_nil, List.mem_singleton, List.forall_mem_cons, not_or, not_false_eq_true, and_true, true_and, or_false, false_or, forall_eq_or_imp, forall_eq, implies_true, Nat.zero_add, Nat.reduceAdd, and_assoc, upd_listA, upd_mapA, upd_bun, upd_fam, ptb_listA, factsP_listA, factsP_mapA, ptb_mapA, Nat.mul_one, factsP_bun, ptb_bun, ptb_fam, factsP_fam, factsP_errA, ptb_errA, upd_errA, entCells] at cs
        go_wp2_with fail
        refine (K2.out _).mono ?_
        rintro e w2b ⟨rfl, o⟩
        replace O := O.callp [] o
        clear o
        simp only [put, List.cons_append, List.nil_append] at O
        have cs := O.facts
        try simp only [factsP, cellsP, roomP, foots_cons, foots_nil, foots_append, foot_pt, ptb, ptb_mapA, foot_mapA, factsP_mapA, foot_bun, List.append_nil, List.nil_append, List.cons_append, List.nodup_cons, List.nodup_nil, List.mem_cons, List.not_mem_nil, List.mem_singleton, List.forall_mem_cons, not_or, not_false_eq_true, and_true, true_and, or_false, false_or, forall_eq_or_imp, forall_eq, implies_true, Nat.zero_add, Nat.reduceAdd, and_assoc, upd_listA, upd_mapA, upd_bun, upd_fam, ptb_listA, factsP_listA, factsP_mapA, ptb_mapA, Nat.mul_one, factsP_bun, ptb_bun, ptb_fam, factsP_fam, factsP_errA, ptb_errA, upd_errA, entCells] at cs
        go_wp2_with fail
        refine (CF1.out _).mono ?_
        rintro e w3 ⟨fb, rfl, o⟩
        replace O := O.callp [] o
        clear o
        simp only [put, List.cons_append, List.nil_append] at O
        have cs := O.facts
        try simp only [factsP, cellsP, roomP, foots_cons, foots_nil, foots_append, foot_pt, ptb, ptb_mapA, foot_mapA, factsP_mapA, foot_bun, List.append_nil, List.nil_append, List.cons_append, List.nodup_cons, List.nodup_nil, List.mem_cons, List.not_mem_nil, List.mem_singleton, List.forall_mem_cons, not_or, not_false_eq_true, and_true, true_and, or_false, false_or, forall_eq_or_imp, forall_eq, implies_true, Nat.zero_add, Nat.reduceAdd, and_assoc, upd_listA, upd_mapA, upd_bun, upd_fam, ptb_listA, factsP_listA, factsP_mapA, ptb_mapA, Nat.mul_one, factsP_bun, ptb_bun, ptb_fam, factsP_fam, factsP_errA, ptb_errA, upd_errA, entCells] at cs
        go_wp2_with fail
        refine bodyPost_ret (v := .tuple #[.slice none 0 0, errV (some fb)]) (by first | (simp [results, Try.results21, go_sem]; done) | (simp [results, Try.results21, go_sem]; rfl)) rfl ⟨some fb, none, 0, rfl, ErrIs.fault (by decide), O.listNil⟩
    · rw [if_neg hm] at hcd
      have hm1 : b1 = true := by cases b1 <;> simp at hm ⊢
      have hm2 : b2 = true := by cases b2 <;> simp at hm ⊢
      subst hm1 hm2
      clear hm
      by_cases hls : ltK hi lo = true
      · rw [if_pos hls] at hcd
        subst hcd
        rw [if_neg (by decide)] at hr
        subst hr
        rw [if_pos hls] at CS
        have CF1 := Lib.hid (fun W => CF.out 1 (by decide) W)
        skip
        go_enter Try.func21, Try.ntmps21
        have cs := O.facts
        try simp only [factsP, cellsP, roomP, foots_cons, foots_nil, foots_append, foot_pt, ptb, ptb_mapA, foot_mapA, factsP_mapA, foot_bun, List.append_nil, List.nil_append, List.cons_append, List.nodup_cons, List.nodup_nil, List.mem_cons, List.not_mem_nil, List.mem_singleton, List.forall_mem_cons, not_or, not_false_eq_true, and_true, true_and, or_false, false_or, forall_eq_or_imp, forall_eq, implies_true, Nat.zero_add, Nat.reduceAdd, and_assoc, upd_listA, upd_mapA, upd_bun, upd_fam, ptb_listA, factsP_listA, factsP_mapA, ptb_mapA, Nat.mul_one, factsP_bun, ptb_bun, ptb_fam, factsP_fam, factsP_errA, ptb_errA, upd_errA, entCells] at cs
        go_wp2_with fail
        refine (CO.out _ (H.out.view O.fr)).mono ?_
        rintro e w1 ⟨rfl, o⟩
        replace O := O.callp [] o
        clear o
        simp only [put, List.cons_append, List.nil_append] at O
        have cs := O.facts
        try simp only [factsP, cellsP, roomP, foots_cons, foots_nil, foots_append, foot_pt, ptb, ptb_mapA, foot_mapA, factsP_mapA, foot_bun, List.append_nil, List.nil_append, List.cons_append, List.nodup_cons, List.nodup_nil, List.mem_cons, List.not_mem_nil, List.mem_singleton, List.forall_mem_cons, not_or, not_false_eq_true, and_true, true_and, or_false, false_or, forall_eq_or_imp, forall_eq, implies_true, Nat.zero_add, Nat.reduceAdd, and_assoc, upd_listA, upd_mapA, upd_bun, upd_fam, ptb_listA, factsP_listA, factsP_mapA, ptb_mapA, Nat.mul_one, factsP_bun, ptb_bun, ptb_fam, factsP_fam, factsP_errA, ptb_errA, upd_errA, entCells] at cs
        go_wp2_with fail
        refine (K1.out _).mono ?_
        rintro e w2 ⟨rfl, o⟩
        replace O := O.callp [] o
        clear o
        simp only [put, List.cons_append, List.nil_append] at O
        have cs := O.facts
        try simp only [factsP, cellsP, roomP, foots_cons, foots_nil, foots_append, foot_pt, ptb, ptb_mapA, foot_mapA, factsP_mapA, foot_bun, List.append_nil, List.nil_append, List.cons_append, List.nodup_cons, List.nodup_nil, List.mem_cons, List.not_mem_nil, List.mem_singleton, List.forall_mem_cons, not_or, not_false_eq_true, and_true, true_and, or_false, false_or, forall_eq_or_imp, forall_eq, implies_true, Nat.zero_add, Nat.reduceAdd, and_assoc, upd_listA, upd_mapA, upd_bun, upd_fam, ptb_listA, factsP_listA, factsP_mapA, ptb_mapA, Nat.mul_one, factsP_bun, ptb_bun, ptb_fam, factsP_fam, factsP_errA, ptb_errA, upd_errA, entCells] at cs
        go_wp2_with fail
        refine (K2.out _).mono ?_
        rintro e w2b ⟨rfl, o⟩
        replace O := O.callp [] o
        clear o
        simp only [put, List.cons_append, List.nil_append] at O
        have cs := O.facts
        try simp only [factsP, cellsP, roomP, foots_cons, foots_nil, foots_append, foot_pt, ptb, ptb_mapA, foot_mapA, factsP_mapA, foot_bun, List.append_nil, List.nil_append, List.cons_append, List.nodup_cons, List.nodup_nil, List.mem_cons, List.not_mem_nil, List.mem_singleton, List.forall_mem_cons, not_or, not_false_eq_true, and_true, true_and, or_false, false_or, forall_eq_or_imp, forall_eq, implies_true, Nat.zero_add, Nat.reduceAdd, and_assoc, upd_listA, upd_mapA, upd_bun, upd_fam, ptb_listA, factsP_listA, factsP_mapA, ptb_mapA, Nat.mul_one, factsP_bun, ptb_bun, ptb_fam, factsP_fam, factsP_errA, ptb_errA, upd_errA, entCells] at cs
        go_wp2_with fail
        refine (CS.out _).mono ?_
        rintro e w2c ⟨rfl, o⟩
        replace O := O.callp [] o
        clear o
        simp only [put, List.cons_append, List.nil_append] at O
        have cs := O.facts
        try simp only [factsP, cellsP, roomP, foots_cons, foots_nil, foots_append, foot_pt, ptb, ptb_mapA, foot_mapA, factsP_mapA, foot_bun, List.append_nil, List.nil_append, List.cons_append, List.nodup_cons, List.nodup_nil, List.mem_cons, List.not_mem_nil, List.mem_singleton, List.forall_mem_cons, not_or, not_false_eq_true, and_true, true_and, or_false, false_or, forall_eq_or_imp, forall_eq, implies_true, Nat.zero_add, Nat.reduceAdd, and_assoc, upd_listA, upd_mapA, upd_bun, upd_fam, ptb_listA, factsP_listA, factsP_mapA, ptb_mapA, Nat.mul_one, factsP_bun, ptb_bun, ptb_fam, factsP_fam, factsP_errA, ptb_errA, upd_errA, entCells] at cs
        go_wp2_with fail
        refine (CF1.out _).mono ?_
        rintro e w3 ⟨fb, rfl, o⟩
        replace O := O.callp [] o
        clear o
        simp only [put, List.cons_append, List.nil_append] at O
        have cs := O.facts
        try simp only [factsP, cellsP, roomP, foots_cons, foots_nil, foots_append, foot_pt, ptb, ptb_mapA, foot_mapA, factsP_mapA, foot_bun, List.append_nil, List.nil_append, List.cons_append, List.nodup_cons, List.nodup_nil, List.mem_cons, List.not_mem_nil, List.mem_singleton, List.forall_mem_cons, not_or, not_false_eq_true, and_true, true_and, or_false, false_or, forall_eq_or_imp, forall_eq, implies_true, Nat.zero_add, Nat.reduceAdd, and_assoc, upd_listA, upd_mapA, upd_bun, upd_fam, ptb_listA, factsP_listA, factsP_mapA, ptb_mapA, Nat.mul_one, factsP_bun, ptb_bun, ptb_fam, factsP_fam, factsP_errA, ptb_errA, upd_errA, entCells] at cs
        go_wp2_with fail
        refine bodyPost_ret (v := .tuple #[.slice none 0 0, errV (some fb)]) (by first | (simp [results, Try.results21, go_sem]; done) | (simp [results, Try.results21, go_sem]; rfl)) rfl ⟨some fb, none, 0, rfl, ErrIs.fault (by decide), O.listNil⟩
      · rw [if_neg hls] at hcd CS
        have hba := bucket_lt lo
        have hbb := bucket_lt hi
        unfold scanP at hr
        have hgen : ∀ k : Nat, k < 64 → (Lit.int .i64 (k : Int)).wf = true := fun k hk => by
          simp [Lit.wf, IntKind.min, IntKind.max, IntKind.signed, IntKind.bits]; omega
        have HG := Lib.hid hgen
        clear hls hgen
        generalize bucketOf lo = a at *
        generalize bucketOf hi = b at *
        have HR := Lib.hid hr
        have HCD := Lib.hid hcd
        clear hr hcd
        obtain ⟨n, hn⟩ : ∃ n, n = b + 1 - a := ⟨_, rfl⟩
        rw [← hn] at HR HCD
        have CF1 := Lib.hid (fun W => CF.out 202 (by decide) W)
        have CH := Lib.hid (fun W (k : Nat) (hk : k < 64) (hW : Pre W (sesL S false ls)) => s_Has W S false ls (k : Int) (HG.out k hk) hW)
        rw [SV] at CH
        clear CF
        have hnd := ses_nodup h
        have HND := Lib.hid hnd
        have HOK := Lib.hid hok
        clear hnd h hok SV
        have H2 := H
        simp only [sesL] at H2
        skip
        go_enter Try.func21, Try.ntmps21
        have cs := O.facts
        try simp only [factsP, cellsP, roomP, foots_cons, foots_nil, foots_append, foot_pt, ptb, ptb_mapA, foot_mapA, factsP_mapA, foot_bun, List.append_nil, List.nil_append, List.cons_append, List.nodup_cons, List.nodup_nil, List.mem_cons, List.not_mem_nil, List.mem_singleton, List.forall_mem_cons, not_or, not_false_eq_true, and_true, true_and, or_false, false_or, forall_eq_or_imp, forall_eq, implies_true, Nat.zero_add, Nat.reduceAdd, and_assoc, upd_listA, upd_mapA, upd_bun, upd_fam, ptb_listA, factsP_listA, factsP_mapA, ptb_mapA, Nat.mul_one, factsP_bun, ptb_bun, ptb_fam, factsP_fam, factsP_errA, ptb_errA, upd_errA, entCells] at cs
        go_wp2_with fail
        refine (CO.out _ (H.out.view O.fr)).mono ?_
        rintro e w1 ⟨rfl, o⟩
        replace O := O.callp [] o
        clear o
        simp only [put, List.cons_append, List.nil_append] at O
        have cs := O.facts
        try simp only [factsP, cellsP, roomP, foots_cons, foots_nil, foots_append, foot_pt, ptb, ptb_mapA, foot_mapA, factsP_mapA, foot_bun, List.append_nil, List.nil_append, List.cons_append, List.nodup_cons, List.nodup_nil, List.mem_cons, List.not_mem_nil, List.mem_singleton, List.forall_mem_cons, not_or, not_false_eq_true, and_true, true_and, or_false, false_or, forall_eq_or_imp, forall_eq, implies_true, Nat.zero_add, Nat.reduceAdd, and_assoc, upd_listA, upd_mapA, upd_bun, upd_fam, ptb_listA, factsP_listA, factsP_mapA, ptb_mapA, Nat.mul_one, factsP_bun, ptb_bun, ptb_fam, factsP_fam, factsP_errA, ptb_errA, upd_errA, entCells] at cs
        go_wp2_with fail
        refine (K1.out _).mono ?_
        rintro e w2 ⟨rfl, o⟩
        replace O := O.callp [] o
        clear o
        simp only [put, List.cons_append, List.nil_append] at O
        have cs := O.facts
        try simp only [factsP, cellsP, roomP, foots_cons, foots_nil, foots_append, foot_pt, ptb, ptb_mapA, foot_mapA, factsP_mapA, foot_bun, List.append_nil, List.nil_append, List.cons_append, List.nodup_cons, List.nodup_nil, List.mem_cons, List.not_mem_nil, List.mem_singleton, List.forall_mem_cons, not_or, not_false_eq_true, and_true, true_and, or_false, false_or, forall_eq_or_imp, forall_eq, implies_true, Nat.zero_add, Nat.reduceAdd, and_assoc, upd_listA, upd_mapA, upd_bun, upd_fam, ptb_listA, factsP_listA, factsP_mapA, ptb_mapA, Nat.mul_one, factsP_bun, ptb_bun, ptb_fam, factsP_fam, factsP_errA, ptb_errA, upd_errA, entCells] at cs
        go_wp2_with fail
        refine (K2.out _).mono ?_
        rintro e w2b ⟨rfl, o⟩
        replace O := O.callp [] o
        clear o
        simp only [put, List.cons_append, List.nil_append] at O
        have cs := O.facts
        try simp only [factsP, cellsP, roomP, foots_cons, foots_nil, foots_append, foot_pt, ptb, ptb_mapA, foot_mapA, factsP_mapA, foot_bun, List.append_nil, List.nil_append, List.cons_append, List.nodup_cons, List.nodup_nil, List.mem_cons, List.not_mem_nil, List.mem_singleton, List.forall_mem_cons, not_or, not_false_eq_true, and_true, true_and, or_false, false_or, forall_eq_or_imp, forall_eq, implies_true, Nat.zero_add, Nat.reduceAdd, and_assoc, upd_listA, upd_mapA, upd_bun, upd_fam, ptb_listA, factsP_listA, factsP_mapA, ptb_mapA, Nat.mul_one, factsP_bun, ptb_bun, ptb_fam, factsP_fam, factsP_errA, ptb_errA, upd_errA, entCells] at cs
        go_wp2_with fail
        refine (CS.out _).mono ?_
        rintro e w2c ⟨rfl, o⟩
        replace O := O.callp [] o
        clear o
        simp only [put, List.cons_append, List.nil_append] at O
        have cs := O.facts
        try simp only [factsP, cellsP, roomP, foots_cons, foots_nil, foots_append, foot_pt, ptb, ptb_mapA, foot_mapA, factsP_mapA, foot_bun, List.append_nil, List.nil_append, List.cons_append, List.nodup_cons, List.nodup_nil, List.mem_cons, List.not_mem_nil, List.mem_singleton, List.forall_mem_cons, not_or, not_false_eq_true, and_true, true_and, or_false, false_or, forall_eq_or_imp, forall_eq, implies_true, Nat.zero_add, Nat.reduceAdd, and_assoc, upd_listA, upd_mapA, upd_bun, upd_fam, ptb_listA, factsP_listA, factsP_mapA, ptb_mapA, Nat.mul_one, factsP_bun, ptb_bun, ptb_fam, factsP_fam, factsP_errA, ptb_errA, upd_errA, entCells] at cs
        go_wp2_with fail
        clear K1 K2 CS CO
        have O1 : Mem w [] w2c [entsA none 0 []] := O.listNil
        clear O
        have O := O1
        clear O1
        go_loopw [12, 13] (fun s12 s13 wr => ∃ (k j : Nat) (A : Option Addr) (c : Nat) (l : List En), Hid (k = a + j) ∧ j ≤ n ∧ s13 = .int .i64 k ∧ s12 = .slice A l.length c ∧ Mem w [] wr [entsA A c l] ∧ Hid (l = scanN (ls.map LogM.p) lo hi a j ∧ (∀ i, i < j → hasP (ls.map LogM.p) ((a + i : Nat) : Int) = true) ∧ l.length ≤ 8 * j)) (fun _ s13 _ => b + 1 - (intOf s13).toNat)
        case atStart => exact ⟨a, 0, none, 0, [], Lib.hid (by omega), by omega, rfl, rfl, O, Lib.hid ⟨rfl, fun i hi => absurd hi (by omega), by simp⟩⟩
        case round =>
          clear O
          obtain ⟨k, j, A, c, l, HKJ, hj, rfl, rfl, O, HI⟩ := hrel
          by_cases hlt : k ≤ b
          · have hlti : (k : Int) ≤ b := by omega
            have hk64 : k < 64 := by omega
            have CHk := Lib.hid (fun W (hW : Pre W (sesL S false ls)) => CH.out W k hk64 hW)
            rw [hasB_p] at CHk
            cases hh : hasP (ls.map LogM.p) k with
            | false =>
              rw [hh] at CHk
              have hN : hasN (ls.map LogM.p) a n = false := by
                unfold hasN
                rw [List.all_eq_false]
                exact ⟨j, List.mem_range.2 (by have := HKJ.out; omega), by rw [← HKJ.out, hh]; simp⟩
              have hcd := HCD.out
              rw [if_pos hN] at hcd
              subst hcd
              have hr := HR.out
              rw [if_neg (by decide)] at hr
              subst hr
              clear HR HCD CH hh hN
              skip
              have cs := O.facts
              try simp only [factsP, cellsP, roomP, foots_cons, foots_nil, foots_append, foot_pt, ptb, ptb_mapA, foot_mapA, factsP_mapA, foot_bun, List.append_nil, List.nil_append, List.cons_append, List.nodup_cons, List.nodup_nil, List.mem_cons, List.not_mem_nil, List.mem_singleton, List.forall_mem_cons, not_or, not_false_eq_true, and_true, true_and, or_false, false_or, forall_eq_or_imp, forall_eq, implies_true, Nat.zero_add, Nat.reduceAdd, and_assoc, upd_listA, upd_mapA, upd_bun, upd_fam, ptb_listA, factsP_listA, factsP_mapA, ptb_mapA, Nat.mul_one, factsP_bun, ptb_bun, ptb_fam, factsP_fam, factsP_errA, ptb_errA, upd_errA, entCells] at cs
              go_wp2_with fail
              refine (CHk.out _ (H.out.view O.fr0.fr)).mono ?_
              rintro e w3 ⟨rfl, o⟩
              replace O := O.callp [] o
              clear o
              simp only [put, List.cons_append, List.nil_append] at O
              have cs := O.facts
              try simp only [factsP, cellsP, roomP, foots_cons, foots_nil, foots_append, foot_pt, ptb, ptb_mapA, foot_mapA, factsP_mapA, foot_bun, List.append_nil, List.nil_append, List.cons_append, List.nodup_cons, List.nodup_nil, List.mem_cons, List.not_mem_nil, List.mem_singleton, List.forall_mem_cons, not_or, not_false_eq_true, and_true, true_and, or_false, false_or, forall_eq_or_imp, forall_eq, implies_true, Nat.zero_add, Nat.reduceAdd, and_assoc, upd_listA, upd_mapA, upd_bun, upd_fam, ptb_listA, factsP_listA, factsP_mapA, ptb_mapA, Nat.mul_one, factsP_bun, ptb_bun, ptb_fam, factsP_fam, factsP_errA, ptb_errA, upd_errA, entCells] at cs
              go_wp2_with fail
              refine (CF1.out _).mono ?_
              rintro e w4 ⟨fb, rfl, o⟩
              replace O := O.callp [] o
              clear o
              simp only [put, List.cons_append, List.nil_append] at O
              have cs := O.facts
              try simp only [factsP, cellsP, roomP, foots_cons, foots_nil, foots_append, foot_pt, ptb, ptb_mapA, foot_mapA, factsP_mapA, foot_bun, List.append_nil, List.nil_append, List.cons_append, List.nodup_cons, List.nodup_nil, List.mem_cons, List.not_mem_nil, List.mem_singleton, List.forall_mem_cons, not_or, not_false_eq_true, and_true, true_and, or_false, false_or, forall_eq_or_imp, forall_eq, implies_true, Nat.zero_add, Nat.reduceAdd, and_assoc, upd_listA, upd_mapA, upd_bun, upd_fam, ptb_listA, factsP_listA, factsP_mapA, ptb_mapA, Nat.mul_one, factsP_bun, ptb_bun, ptb_fam, factsP_fam, factsP_errA, ptb_errA, upd_errA, entCells] at cs
              go_wp2_with fail
              refine bodyPost_ret (v := .tuple #[.slice none 0 0, errV (some fb)]) (by first | (simp [results, Try.results21, go_sem]; done) | (simp [results, Try.results21, go_sem]; rfl)) rfl ⟨some fb, none, 0, rfl, ErrIs.fault (by decide), (O.sel [true, false]).listNil⟩
            | true =>
              rw [hh] at CHk
              obtain ⟨i, E, hix, hb⟩ := has_at hh
              obtain ⟨ho1, ho2⟩ := HOK.out E (List.mem_of_getElem? hix)
              have hnow := find_at HND.out hix
              rw [hb] at hnow
              have LK := Lib.hid (fun W (hW : MapAt intK ptrV W S.lb (ls.map lgPtr)) => by
                have := look_log hW (HG.out k hk64)
                rw [← hb, ses_get HND.out hix] at this
                simp only [Option.map_some, Option.getD_some, ptrV] at this
                rw [hb] at this
                exact this)
              have EF := Lib.hid (fun W (hW : Pre W (sesL S false ls)) => by
                have O1 := ses_open (L := []) (w0 := W) (F := foots (sesL S false ls)) (by rw [List.append_nil]; exact hW) hix
                exact (And.intro (show factsP W E.parts from facts_of _ (fun A hA => O1.hold A (List.mem_append.2 (.inl hA))) (fun b hb => O1.lt b (by rw [foots_append]; exact List.mem_append.2 (.inl hb)))) (O1.hold (entsA E.NA E.nc E.now) (by simp [LogM.parts]))))
              have hsc : scanN (ls.map LogM.p) lo hi a (j + 1) = scanN (ls.map LogM.p) lo hi a j ++ fltR lo hi E.now := by
                rw [scanN, ← HKJ.out, hnow]
              have HSC := Lib.hid hsc
              have HH := Lib.hid hh
              clear hsc hh hix hb hnow
              obtain ⟨tb, eb, ev, ei, WA, wc, was, NA, nc, now⟩ := E
              simp only [LogM.parts, LogM.cells] at EF LK ho1 ho2 HSC
              skip
              have cs := O.facts
              try simp only [factsP, cellsP, roomP, foots_cons, foots_nil, foots_append, foot_pt, ptb, ptb_mapA, foot_mapA, factsP_mapA, foot_bun, List.append_nil, List.nil_append, List.cons_append, List.nodup_cons, List.nodup_nil, List.mem_cons, List.not_mem_nil, List.mem_singleton, List.forall_mem_cons, not_or, not_false_eq_true, and_true, true_and, or_false, false_or, forall_eq_or_imp, forall_eq, implies_true, Nat.zero_add, Nat.reduceAdd, and_assoc, upd_listA, upd_mapA, upd_bun, upd_fam, ptb_listA, factsP_listA, factsP_mapA, ptb_mapA, Nat.mul_one, factsP_bun, ptb_bun, ptb_fam, factsP_fam, factsP_errA, ptb_errA, upd_errA, entCells] at cs
              have v1 := (H2.out.view O.fr0.fr).facts
              try simp only [cellsQ, roomP, and_assoc, and_true, true_and, Nat.add_zero, Nat.zero_add, Nat.reduceAdd, factsP, cellsP, roomP, foots_cons, foots_nil, foots_append, foot_pt, ptb, ptb_mapA, foot_mapA, factsP_mapA, foot_bun, List.append_nil, List.nil_append, List.cons_append, List.nodup_cons, List.nodup_nil, List.mem_cons, List.not_mem_nil, List.mem_singleton, List.forall_mem_cons, not_or, not_false_eq_true, and_true, true_and, or_false, false_or, forall_eq_or_imp, forall_eq, implies_true, Nat.zero_add, Nat.reduceAdd, and_assoc, upd_listA, upd_mapA, upd_bun, upd_fam, ptb_listA, factsP_listA, factsP_mapA, ptb_mapA, Nat.mul_one, factsP_bun, ptb_bun, ptb_fam, factsP_fam, factsP_errA, ptb_errA, upd_errA, entCells] at v1
              have v2 := (EF.out _ (H.out.view O.fr0.fr)).1
              try simp only [cellsQ, roomP, and_assoc, and_true, true_and, Nat.add_zero, Nat.zero_add, Nat.reduceAdd, factsP, cellsP, roomP, foots_cons, foots_nil, foots_append, foot_pt, ptb, ptb_mapA, foot_mapA, factsP_mapA, foot_bun, List.append_nil, List.nil_append, List.cons_append, List.nodup_cons, List.nodup_nil, List.mem_cons, List.not_mem_nil, List.mem_singleton, List.forall_mem_cons, not_or, not_false_eq_true, and_true, true_and, or_false, false_or, forall_eq_or_imp, forall_eq, implies_true, Nat.zero_add, Nat.reduceAdd, and_assoc, upd_listA, upd_mapA, upd_bun, upd_fam, ptb_listA, factsP_listA, factsP_mapA, ptb_mapA, Nat.mul_one, factsP_bun, ptb_bun, ptb_fam, factsP_fam, factsP_errA, ptb_errA, upd_errA, entCells] at v2
              have v3 := (LK.out _ ((H2.out.view O.fr0.fr).map (κ := intK) (vv := ptrV) (by simp)))
              try simp only [cellsQ, roomP, and_assoc, and_true, true_and, Nat.add_zero, Nat.zero_add, Nat.reduceAdd, factsP, cellsP, roomP, foots_cons, foots_nil, foots_append, foot_pt, ptb, ptb_mapA, foot_mapA, factsP_mapA, foot_bun, List.append_nil, List.nil_append, List.cons_append, List.nodup_cons, List.nodup_nil, List.mem_cons, List.not_mem_nil, List.mem_singleton, List.forall_mem_cons, not_or, not_false_eq_true, and_true, true_and, or_false, false_or, forall_eq_or_imp, forall_eq, implies_true, Nat.zero_add, Nat.reduceAdd, and_assoc, upd_listA, upd_mapA, upd_bun, upd_fam, ptb_listA, factsP_listA, factsP_mapA, ptb_mapA, Nat.mul_one, factsP_bun, ptb_bun, ptb_fam, factsP_fam, factsP_errA, ptb_errA, upd_errA, entCells] at v3
              go_wp2_with fail
              refine (CHk.out _ (H.out.view O.fr0.fr)).mono ?_
              rintro e w3 ⟨rfl, o⟩
              replace O := O.callp [] o
              clear o
              simp only [put, List.cons_append, List.nil_append] at O
              have cs := O.facts
              try simp only [factsP, cellsP, roomP, foots_cons, foots_nil, foots_append, foot_pt, ptb, ptb_mapA, foot_mapA, factsP_mapA, foot_bun, List.append_nil, List.nil_append, List.cons_append, List.nodup_cons, List.nodup_nil, List.mem_cons, List.not_mem_nil, List.mem_singleton, List.forall_mem_cons, not_or, not_false_eq_true, and_true, true_and, or_false, false_or, forall_eq_or_imp, forall_eq, implies_true, Nat.zero_add, Nat.reduceAdd, and_assoc, upd_listA, upd_mapA, upd_bun, upd_fam, ptb_listA, factsP_listA, factsP_mapA, ptb_mapA, Nat.mul_one, factsP_bun, ptb_bun, ptb_fam, factsP_fam, factsP_errA, ptb_errA, upd_errA, entCells] at cs
              have v1 := (H2.out.view O.fr0.fr).facts
              try simp only [cellsQ, roomP, and_assoc, and_true, true_and, Nat.add_zero, Nat.zero_add, Nat.reduceAdd, factsP, cellsP, roomP, foots_cons, foots_nil, foots_append, foot_pt, ptb, ptb_mapA, foot_mapA, factsP_mapA, foot_bun, List.append_nil, List.nil_append, List.cons_append, List.nodup_cons, List.nodup_nil, List.mem_cons, List.not_mem_nil, List.mem_singleton, List.forall_mem_cons, not_or, not_false_eq_true, and_true, true_and, or_false, false_or, forall_eq_or_imp, forall_eq, implies_true, Nat.zero_add, Nat.reduceAdd, and_assoc, upd_listA, upd_mapA, upd_bun, upd_fam, ptb_listA, factsP_listA, factsP_mapA, ptb_mapA, Nat.mul_one, factsP_bun, ptb_bun, ptb_fam, factsP_fam, factsP_errA, ptb_errA, upd_errA, entCells] at v1
              have v2 := (EF.out _ (H.out.view O.fr0.fr)).1
              try simp only [cellsQ, roomP, and_assoc, and_true, true_and, Nat.add_zero, Nat.zero_add, Nat.reduceAdd, factsP, cellsP, roomP, foots_cons, foots_nil, foots_append, foot_pt, ptb, ptb_mapA, foot_mapA, factsP_mapA, foot_bun, List.append_nil, List.nil_append, List.cons_append, List.nodup_cons, List.nodup_nil, List.mem_cons, List.not_mem_nil, List.mem_singleton, List.forall_mem_cons, not_or, not_false_eq_true, and_true, true_and, or_false, false_or, forall_eq_or_imp, forall_eq, implies_true, Nat.zero_add, Nat.reduceAdd, and_assoc, upd_listA, upd_mapA, upd_bun, upd_fam, ptb_listA, factsP_listA, factsP_mapA, ptb_mapA, Nat.mul_one, factsP_bun, ptb_bun, ptb_fam, factsP_fam, factsP_errA, ptb_errA, upd_errA, entCells] at v2
              have v3 := (LK.out _ ((H2.out.view O.fr0.fr).map (κ := intK) (vv := ptrV) (by simp)))
              try simp only [cellsQ, roomP, and_assoc, and_true, true_and, Nat.add_zero, Nat.zero_add, Nat.reduceAdd, factsP, cellsP, roomP, foots_cons, foots_nil, foots_append, foot_pt, ptb, ptb_mapA, foot_mapA, factsP_mapA, foot_bun, List.append_nil, List.nil_append, List.cons_append, List.nodup_cons, List.nodup_nil, List.mem_cons, List.not_mem_nil, List.mem_singleton, List.forall_mem_cons, not_or, not_false_eq_true, and_true, true_and, or_false, false_or, forall_eq_or_imp, forall_eq, implies_true, Nat.zero_add, Nat.reduceAdd, and_assoc, upd_listA, upd_mapA, upd_bun, upd_fam, ptb_listA, factsP_listA, factsP_mapA, ptb_mapA, Nat.mul_one, factsP_bun, ptb_bun, ptb_fam, factsP_fam, factsP_errA, ptb_errA, upd_errA, entCells] at v3
              go_wp2_with fail
              skip
              clear cs v1 v2 v3
              go_loopw [12, 63] (fun s12 s63 wr => ∃ (m : Nat) (A : Option Addr) (c : Nat) (l2 : List En), m ≤ now.length ∧ s63 = .int .i64 m ∧ s12 = .slice A l2.length c ∧ Mem w [] wr [entsA A c l2] ∧ Hid (l2 = l ++ fltR lo hi (now.take m) ∧ l2.length ≤ l.length + m)) (fun _ s63 _ => now.length - (intOf s63).toNat)
              case atStart => exact ⟨0, A, c, l, by omega, rfl, rfl, O, Lib.hid ⟨by simp [fltR], by omega⟩⟩
              case round =>
                clear O
                obtain ⟨m, A1, c1, l2, hm, rfl, rfl, O, HI2⟩ := hrel
                have hl2 : l2.length ≤ 1000 := by have h1 := HI2.out.2; have h2 := HI.out.2.2; omega
                by_cases hmt : m < now.length
                · have hmti : (m : Int) < now.length := by omega
                  obtain ⟨⟨ek, e2⟩, he⟩ : ∃ x, now[m]? = some x := ⟨_, List.getElem?_eq_getElem hmt⟩
                  have htk : fltR lo hi (now.take (m + 1)) = fltR lo hi (now.take m) ++ (if inR lo hi (ek, e2) = true then [(ek, e2)] else []) := by
                    rw [List.take_succ_eq_append_getElem hmt, (List.getElem?_eq_some_iff.1 he).2]
                    unfold fltR
                    rw [List.filter_append, List.filter_cons, List.filter_nil]
                  obtain ⟨g, rfl, _⟩ := listA_get entLen (EF.out _ H.out).2 he
                  have HX := Lib.hid he
                  have HTK := Lib.hid htk
                  clear he htk
                  skip
                  have cs := O.facts
                  try simp only [factsP, cellsP, roomP, foots_cons, foots_nil, foots_append, foot_pt, ptb, ptb_mapA, foot_mapA, factsP_mapA, foot_bun, List.append_nil, List.nil_append, List.cons_append, List.nodup_cons, List.nodup_nil, List.mem_cons, List.not_mem_nil, List.mem_singleton, List.forall_mem_cons, not_or, not_false_eq_true, and_true, true_and, or_false, false_or, forall_eq_or_imp, forall_eq, implies_true, Nat.zero_add, Nat.reduceAdd, and_assoc, upd_listA, upd_mapA, upd_bun, upd_fam, ptb_listA, factsP_listA, factsP_mapA, ptb_mapA, Nat.mul_one, factsP_bun, ptb_bun, ptb_fam, factsP_fam, factsP_errA, ptb_errA, upd_errA, entCells] at cs
                  try have v1 := (listA_at entLen (EF.out _ (H.out.view O.fr0.fr)).2 HX.out)
                  try simp only [cellsQ, roomP, and_assoc, and_true, true_and, Nat.add_zero, Nat.zero_add, Nat.reduceAdd, factsP, cellsP, roomP, foots_cons, foots_nil, foots_append, foot_pt, ptb, ptb_mapA, foot_mapA, factsP_mapA, foot_bun, List.append_nil, List.nil_append, List.cons_append, List.nodup_cons, List.nodup_nil, List.mem_cons, List.not_mem_nil, List.mem_singleton, List.forall_mem_cons, not_or, not_false_eq_true, and_true, true_and, or_false, false_or, forall_eq_or_imp, forall_eq, implies_true, Nat.zero_add, Nat.reduceAdd, and_assoc, upd_listA, upd_mapA, upd_bun, upd_fam, ptb_listA, factsP_listA, factsP_mapA, ptb_mapA, Nat.mul_one, factsP_bun, ptb_bun, ptb_fam, factsP_fam, factsP_errA, ptb_errA, upd_errA, entCells] at v1
                  go_upto_region 18 with fail
                  first | apply Mem.atCall | apply Mem.atCode | apply Mem.atList
                  case h => repeat' (first | (with_reducible exact O) | (with_reducible apply Mem.drew) | (with_reducible apply Mem.drewN) | (with_reducible apply Mem.ext) | (with_reducible apply Mem.alloc) | (with_reducible apply Mem.setCell) | (simp only [ptb, ptb_upd, foots_cons, List.mem_cons, World.size_alloc, size_ext, World.size_setCell, true_or, or_true, eq_self_iff_true, ptb_listA, ptb_mapA, ptb_bun, ptb_fam, ptb_errA]))
                  case' k =>
                    intro w5 O'
                    (try clear O)
                    have O := O'
                    clear O'
                    (first | simp only [sel, rst, List.cons_append, List.nil_append, World.size_alloc, size_ext, World.size_setCell, size_setMap, World.size_drew, size_drewN, upd, List.set_cons_zero, List.set_cons_succ, if_true, if_false, reduceIte, not_false_eq_true, ne_lt0, ne_lt1, ne_lt2, ne_lt3, ne_lt4, upd_listA, upd_mapA, upd_bun, upd_fam, upd_errA, cs] at O | simp only [sel, rst, List.cons_append, List.nil_append, World.size_alloc, size_ext, World.size_setCell, size_setMap, World.size_drew, size_drewN, upd, List.set_cons_zero, List.set_cons_succ, if_true, if_false, reduceIte, not_false_eq_true, ne_lt0, ne_lt1, ne_lt2, ne_lt3, ne_lt4, upd_listA, upd_mapA, upd_bun, upd_fam, upd_errA] at O | skip)
                    (try clear cs)
                    (try clear v1)
                    (try clear v2)
                    (try clear v3)
                  generalize wr.heap.size = xb at O ⊢
                  by_cases hA : Op.bytesLess ek.toList lo.toList = true
                  · have hin : inR lo hi (ek, e2) = false := by
                      unfold inR; simp only []
                      rw [show ltK ek lo = true from hA]; rfl
                    have HT2 := HTK.out
                    rw [hin] at HT2
                    have HT3 := Lib.hid HT2
                    clear HT2 hin
                    skip
                    have cs := O.facts
                    try simp only [factsP, cellsP, roomP, foots_cons, foots_nil, foots_append, foot_pt, ptb, ptb_mapA, foot_mapA, factsP_mapA, foot_bun, List.append_nil, List.nil_append, List.cons_append, List.nodup_cons, List.nodup_nil, List.mem_cons, List.not_mem_nil, List.mem_singleton, List.forall_mem_cons, not_or, not_false_eq_true, and_true, true_and, or_false, false_or, forall_eq_or_imp, forall_eq, implies_true, Nat.zero_add, Nat.reduceAdd, and_assoc, upd_listA, upd_mapA, upd_bun, upd_fam, ptb_listA, factsP_listA, factsP_mapA, ptb_mapA, Nat.mul_one, factsP_bun, ptb_bun, ptb_fam, factsP_fam, factsP_errA, ptb_errA, upd_errA, entCells] at cs
                    go_wp2_with fail
                    go_roundw
                    case rel => exact ⟨m + 1, A1, c1, l2, by omega, by go_num, rfl, O.sel [false, true], Lib.hid ⟨by rw [HT3.out]; simpa using HI2.out.1, by have := HI2.out.2; omega⟩⟩
                    case measure => simp [intOf]; omega
                  · have hA2 : Op.bytesLess ek.toList lo.toList = false := by simpa using hA
                    clear hA
                    by_cases hB : ltK hi ek = true
                    · have e1 : Op.bytesLess ek.toList hi.toList = false := ltK_asym hB
                      have e3 : (ek.toList == hi.toList) = false := by
                        rw [beq_eq_false_iff_ne]
                        exact fun e => ltK_ne hB (ba_ext e.symm)
                      have hin : inR lo hi (ek, e2) = false := by
                        unfold inR; simp only [hB, Bool.not_true, Bool.and_false]
                      have HT2 := HTK.out
                      rw [hin] at HT2
                      have HT3 := Lib.hid HT2
                      clear HT2 hin hB
                      skip
                      have cs := O.facts
                      try simp only [factsP, cellsP, roomP, foots_cons, foots_nil, foots_append, foot_pt, ptb, ptb_mapA, foot_mapA, factsP_mapA, foot_bun, List.append_nil, List.nil_append, List.cons_append, List.nodup_cons, List.nodup_nil, List.mem_cons, List.not_mem_nil, List.mem_singleton, List.forall_mem_cons, not_or, not_false_eq_true, and_true, true_and, or_false, false_or, forall_eq_or_imp, forall_eq, implies_true, Nat.zero_add, Nat.reduceAdd, and_assoc, upd_listA, upd_mapA, upd_bun, upd_fam, ptb_listA, factsP_listA, factsP_mapA, ptb_mapA, Nat.mul_one, factsP_bun, ptb_bun, ptb_fam, factsP_fam, factsP_errA, ptb_errA, upd_errA, entCells] at cs
                      go_wp2_with fail
                      go_roundw
                      case rel => exact ⟨m + 1, A1, c1, l2, by omega, by go_num, rfl, O.sel [false, true], Lib.hid ⟨by rw [HT3.out]; simpa using HI2.out.1, by have := HI2.out.2; omega⟩⟩
                      case measure => simp [intOf]; omega
                    · have hin : inR lo hi (ek, e2) = true := by
                        unfold inR
                        simp only []
                        rw [show ltK ek lo = false from hA2]
                        simpa using hB
                      have HT2 := HTK.out
                      rw [hin, if_pos rfl] at HT2
                      have HT3 := Lib.hid HT2
                      have hle : (Op.bytesLess ek.toList hi.toList || ek.toList == hi.toList) = true := by rw [leT]; simpa using hB
                      clear HT2 hin hB HTK
                      cases h3 : Op.bytesLess ek.toList hi.toList with
                      | true =>
                        clear hle
                        skip
                        have cs := O.facts
                        try simp only [factsP, cellsP, roomP, foots_cons, foots_nil, foots_append, foot_pt, ptb, ptb_mapA, foot_mapA, factsP_mapA, foot_bun, List.append_nil, List.nil_append, List.cons_append, List.nodup_cons, List.nodup_nil, List.mem_cons, List.not_mem_nil, List.mem_singleton, List.forall_mem_cons, not_or, not_false_eq_true, and_true, true_and, or_false, false_or, forall_eq_or_imp, forall_eq, implies_true, Nat.zero_add, Nat.reduceAdd, and_assoc, upd_listA, upd_mapA, upd_bun, upd_fam, ptb_listA, factsP_listA, factsP_mapA, ptb_mapA, Nat.mul_one, factsP_bun, ptb_bun, ptb_fam, factsP_fam, factsP_errA, ptb_errA, upd_errA, entCells] at cs
                        go_upto_region 19 with fail
                        have cs := O.facts
                        try simp only [factsP, cellsP, roomP, foots_cons, foots_nil, foots_append, foot_pt, ptb, ptb_mapA, foot_mapA, factsP_mapA, foot_bun, List.append_nil, List.nil_append, List.cons_append, List.nodup_cons, List.nodup_nil, List.mem_cons, List.not_mem_nil, List.mem_singleton, List.forall_mem_cons, not_or, not_false_eq_true, and_true, true_and, or_false, false_or, forall_eq_or_imp, forall_eq, implies_true, Nat.zero_add, Nat.reduceAdd, and_assoc, upd_listA, upd_mapA, upd_bun, upd_fam, ptb_listA, factsP_listA, factsP_mapA, ptb_mapA, Nat.mul_one, factsP_bun, ptb_bun, ptb_fam, factsP_fam, factsP_errA, ptb_errA, upd_errA, entCells] at cs
                        go_wp2_with ((at_builtin; refine entTy.wl_app ((O.alloc (entCells ((ek, e2))) 65).front1 [false, false, true] rfl) rfl rfl (by simp) rfl [((ek, e2))] rfl rfl (src_one (x := ((ek, e2))) (fun _ => rfl) (O.alloc (entCells ((ek, e2))) 65) (List.mem_cons_self ..)) (by first | (simp; done) | (simp; omega)) ?_; intro A2 c2 wc O4; have cs1 := O4.facts; simp only [rst, factsP, cellsP, roomP, foots_cons, foots_nil, foots_append, foot_pt, ptb, ptb_mapA, foot_mapA, factsP_mapA, foot_bun, List.append_nil, List.nil_append, List.cons_append, List.nodup_cons, List.nodup_nil, List.mem_cons, List.not_mem_nil, List.mem_singleton, List.forall_mem_cons, not_or, not_false_eq_true, and_true, true_and, or_false, false_or, forall_eq_or_imp, forall_eq, implies_true, Nat.zero_add, Nat.reduceAdd, and_assoc, upd_listA, upd_mapA, upd_bun, upd_fam, ptb_listA, factsP_listA, factsP_mapA, ptb_mapA, Nat.mul_one, factsP_bun, ptb_bun, ptb_fam, factsP_fam, factsP_errA, ptb_errA, upd_errA, entCells] at cs1))
                        clear cs O
                        have cs := cs1
                        clear cs1
                        have O := O4.unfront
                        simp only [put, List.cons_append, List.nil_append] at O
                        clear O4
                        go_roundw
                        case rel => exact ⟨m + 1, A2, c2, _, by omega, by go_num, by simp, O.sel [false, false, true], Lib.hid ⟨by rw [HT3.out, ← List.append_assoc, ← HI2.out.1], by have := HI2.out.2; simp; omega⟩⟩
                        case measure => simp [intOf]; omega
                      | false =>
                        rw [h3, Bool.false_or] at hle
                        skip
                        have cs := O.facts
                        try simp only [factsP, cellsP, roomP, foots_cons, foots_nil, foots_append, foot_pt, ptb, ptb_mapA, foot_mapA, factsP_mapA, foot_bun, List.append_nil, List.nil_append, List.cons_append, List.nodup_cons, List.nodup_nil, List.mem_cons, List.not_mem_nil, List.mem_singleton, List.forall_mem_cons, not_or, not_false_eq_true, and_true, true_and, or_false, false_or, forall_eq_or_imp, forall_eq, implies_true, Nat.zero_add, Nat.reduceAdd, and_assoc, upd_listA, upd_mapA, upd_bun, upd_fam, ptb_listA, factsP_listA, factsP_mapA, ptb_mapA, Nat.mul_one, factsP_bun, ptb_bun, ptb_fam, factsP_fam, factsP_errA, ptb_errA, upd_errA, entCells] at cs
                        go_upto_region 19 with fail
                        have cs := O.facts
                        try simp only [factsP, cellsP, roomP, foots_cons, foots_nil, foots_append, foot_pt, ptb, ptb_mapA, foot_mapA, factsP_mapA, foot_bun, List.append_nil, List.nil_append, List.cons_append, List.nodup_cons, List.nodup_nil, List.mem_cons, List.not_mem_nil, List.mem_singleton, List.forall_mem_cons, not_or, not_false_eq_true, and_true, true_and, or_false, false_or, forall_eq_or_imp, forall_eq, implies_true, Nat.zero_add, Nat.reduceAdd, and_assoc, upd_listA, upd_mapA, upd_bun, upd_fam, ptb_listA, factsP_listA, factsP_mapA, ptb_mapA, Nat.mul_one, factsP_bun, ptb_bun, ptb_fam, factsP_fam, factsP_errA, ptb_errA, upd_errA, entCells] at cs
                        go_wp2_with ((at_builtin; refine entTy.wl_app ((O.alloc (entCells ((ek, e2))) 65).front1 [false, false, true] rfl) rfl rfl (by simp) rfl [((ek, e2))] rfl rfl (src_one (x := ((ek, e2))) (fun _ => rfl) (O.alloc (entCells ((ek, e2))) 65) (List.mem_cons_self ..)) (by first | (simp; done) | (simp; omega)) ?_; intro A2 c2 wc O4; have cs1 := O4.facts; simp only [rst, factsP, cellsP, roomP, foots_cons, foots_nil, foots_append, foot_pt, ptb, ptb_mapA, foot_mapA, factsP_mapA, foot_bun, List.append_nil, List.nil_append, List.cons_append, List.nodup_cons, List.nodup_nil, List.mem_cons, List.not_mem_nil, List.mem_singleton, List.forall_mem_cons, not_or, not_false_eq_true, and_true, true_and, or_false, false_or, forall_eq_or_imp, forall_eq, implies_true, Nat.zero_add, Nat.reduceAdd, and_assoc, upd_listA, upd_mapA, upd_bun, upd_fam, ptb_listA, factsP_listA, factsP_mapA, ptb_mapA, Nat.mul_one, factsP_bun, ptb_bun, ptb_fam, factsP_fam, factsP_errA, ptb_errA, upd_errA, entCells] at cs1))
                        clear cs O
                        have cs := cs1
                        clear cs1
                        have O := O4.unfront
                        simp only [put, List.cons_append, List.nil_append] at O
                        clear O4
                        go_roundw
                        case rel => exact ⟨m + 1, A2, c2, _, by omega, by go_num, by simp, O.sel [false, false, true], Lib.hid ⟨by rw [HT3.out, ← List.append_assoc, ← HI2.out.1], by have := HI2.out.2; simp; omega⟩⟩
                        case measure => simp [intOf]; omega
                · obtain rfl : m = now.length := by omega
                  skip
                  have cs := O.facts
                  try simp only [factsP, cellsP, roomP, foots_cons, foots_nil, foots_append, foot_pt, ptb, ptb_mapA, foot_mapA, factsP_mapA, foot_bun, List.append_nil, List.nil_append, List.cons_append, List.nodup_cons, List.nodup_nil, List.mem_cons, List.not_mem_nil, List.mem_singleton, List.forall_mem_cons, not_or, not_false_eq_true, and_true, true_and, or_false, false_or, forall_eq_or_imp, forall_eq, implies_true, Nat.zero_add, Nat.reduceAdd, and_assoc, upd_listA, upd_mapA, upd_bun, upd_fam, ptb_listA, factsP_listA, factsP_mapA, ptb_mapA, Nat.mul_one, factsP_bun, ptb_bun, ptb_fam, factsP_fam, factsP_errA, ptb_errA, upd_errA, entCells] at cs
                  go_wp2_with fail
                  go_roundw
                  case rel => exact ⟨k + 1, j + 1, A1, c1, l2, Lib.hid (by have := HKJ.out; omega), by have := HKJ.out; omega, by go_num, rfl, O, Lib.hid ⟨by
                    rw [HSC.out, HI2.out.1, List.take_length, HI.out.1], fun i hi => by
                    rcases Nat.lt_succ_iff_lt_or_eq.1 hi with h | rfl
                    · exact HI.out.2.1 i h
                    · rw [← HKJ.out]; exact HH.out, by have h1 := HI2.out.2; have h2 := HI.out.2.2; omega⟩⟩
                  case measure => simp [intOf]; omega
          · obtain rfl : j = n := by have := HKJ.out; omega
            have hN : hasN (ls.map LogM.p) a j = true := by
              unfold hasN
              rw [List.all_eq_true]
              intro i hi
              exact HI.out.2.1 i (List.mem_range.1 hi)
            have hcd := HCD.out
            rw [if_neg (by rw [hN]; simp)] at hcd
            subst hcd
            have hr := HR.out
            rw [if_pos rfl, ← HI.out.1] at hr
            subst hr
            skip
            have cs := O.facts
            try simp only [factsP, cellsP, roomP, foots_cons, foots_nil, foots_append, foot_pt, ptb, ptb_mapA, foot_mapA, factsP_mapA, foot_bun, List.append_nil, List.nil_append, List.cons_append, List.nodup_cons, List.nodup_nil, List.mem_cons, List.not_mem_nil, List.mem_singleton, List.forall_mem_cons, not_or, not_false_eq_true, and_true, true_and, or_false, false_or, forall_eq_or_imp, forall_eq, implies_true, Nat.zero_add, Nat.reduceAdd, and_assoc, upd_listA, upd_mapA, upd_bun, upd_fam, ptb_listA, factsP_listA, factsP_mapA, ptb_mapA, Nat.mul_one, factsP_bun, ptb_bun, ptb_fam, factsP_fam, factsP_errA, ptb_errA, upd_errA, entCells] at cs
            go_wp2_with fail
            refine bodyPost_ret (v := .tuple #[.slice A r.length c, errV none]) (by first | (simp [results, Try.results21, go_sem]; done) | (simp [results, Try.results21, go_sem]; rfl)) rfl ⟨none, A, c, rfl, ErrIs.nil, err_none (L := [entsA A c r]) _ _ O⟩
end Go.Proofs.Ytomcekjhehceoaa
