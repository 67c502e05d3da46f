/- WALKS: Delete, Put. -/
import Derived.Test.YtomcekjhehceoaaSesG20
set_option linter.unusedVariables false
set_option linter.unusedSimpArgs false
namespace Go.Proofs.Ytomcekjhehceoaa
open Go.RowKit Go.Tk
theorem err_end {w0 w : World} {F : List Nat} {L : List Asn} {A : Asn} (h : Mem w0 F w (A :: L)) : Mem w0 F w (L ++ [A]) := h.perm (List.perm_append_comm (l₁ := [A]) (l₂ := L))
theorem err_none {w0 w : World} {F : List Nat} {L : List Asn} (e : Int) (of : ByteArray) (h : Mem w0 F w L) : Mem w0 F w (L ++ [errA none e of]) := err_end (Mem.shut (l := []) h)
def delS (done : Bool) (ps : List LogP) (key : ByteArray) : Bool × List LogP := if codeP done ps key .empty = 0 ∧ isK key (nowP ps (bucketOf key)) = true then (true, setNow ps (bucketOf key) (delK key (nowP ps (bucketOf key)))) else (false, ps)
def putS (done : Bool) (ps : List LogP) (key v : ByteArray) : Int × List LogP :=
  if codeP done ps key v = 0 then (if isK key (nowP ps (bucketOf key)) = false ∧ 8 ≤ (nowP ps (bucketOf key)).length then (204, ps) else (0, setNow ps (bucketOf key) (putK key v (nowP ps (bucketOf key))))) else (codeP done ps key v, ps)
set_option maxRecDepth 100000 in
set_option maxHeartbeats 4000000 in
theorem s_Delete (w : World) (S : SesH) (done : Bool) (ls : List LogM) (key : ByteArray) (hk : key.size ≤ 1048576) (hok : LogsOk ls) (h : Pre w (sesL S done ls)) :
    Calls Try.prog 13 #[S.val, .string key] w (fun r w' => ∃ q ls', r = .returned (.tuple #[.bool (delS done (ls.map LogM.p) key).1, errV q]) ∧ ErrIs q (codeP done (ls.map LogM.p) key .empty) ∧ ls'.map LogM.p = (delS done (ls.map LogM.p) key).2 ∧ Mem w (foots (sesL S done ls)) w' (sesL S done ls' ++ [errA q (codeP done (ls.map LogM.p) key .empty) nDelete])) := by
  obtain ⟨r, hr⟩ : ∃ r, r = delS done (ls.map LogM.p) key := ⟨_, rfl⟩
  rw [← hr]
  have O : Mem w (foots (sesL S done ls)) w (sesL S done ls) := h
  generalize hfp : foots (sesL S done ls) = fp at O ⊢
  clear hfp
  have CN := Lib.hid (fun W hc (hW : Pre W (sesL S done ls)) => s_at_no W S done ls key .empty hk (by simp) hc hW)
  rw [codeK_p] at CN
  obtain ⟨c, hc⟩ : ∃ c, c = codeP done (ls.map LogM.p) key .empty := ⟨_, rfl⟩
  rw [← hc] at CN ⊢
  have SV : S.val = .pointer (some ⟨S.sb, 0, none⟩) := rfl
  by_cases hc0 : c = 0
  · obtain ⟨rfl, k1, k2, k3⟩ := codeP_zero (hc.symm.trans hc0)
    obtain ⟨i, E, hi, hb⟩ := has_at k3
    have hnd := ses_nodup h
    have hnow := find_at hnd hi
    have hset := fun A c l => (set_now hnd hi A c l).trans (by rw [hb] : _ = setNow (ls.map LogM.p) (bucketOf key) l)
    rw [hb] at hnow
    obtain ⟨ho1, ho2⟩ := hok E (List.mem_of_getElem? hi)
    have CY := Lib.hid (fun W (hW : Pre W (sesL S false ls)) => s_at W S ls key .empty hk (by simp) (by rw [codeK_p, ← hc, hc0]) i E hi hb ho1 ho2 hW)
    have HC0 := Lib.hid hc0
    unfold delS at hr
    rw [hnow, ← hc, hc0] at hr
    simp only [true_and] at hr
    have HI := Lib.hid hi
    clear CN hc k1 k2 k3 hnd hnow hb hok h hc0
    rw [SV] at CY ⊢
    rw [HC0.out]
    clear HC0 SV
    cases hik : isK key E.now with
    | false =>
      rw [hik] at CY hr
      simp only [Bool.false_eq_true, if_false] at hr
      subst hr
      clear hik hset
      generalize lbK key E.now = pp at CY
      have CF := Lib.hid (fun W => s_fault W nDelete 0)
      unfold nDelete at CF
      simp only [sesL] at O
      skip
      go_enter Try.func13, Try.ntmps13
      have cs := O.facts
      try simp only [factsP, cellsP, roomP, foots_cons, foots_nil, foots_append, foot_pt, ptb, ptb_mapA, foot_mapA, factsP_mapA, foot_bun, List.append_nil, List.nil_append, List.cons_append, List.nodup_cons, List.nodup_nil, List.mem_cons, List.not_mem_nil, List.mem_singleton, List.forall_mem_cons, not_or, not_false_eq_true, and_true, true_and, or_false, false_or, forall_eq_or_imp, forall_eq, implies_true, Nat.zero_add, Nat.reduceAdd, and_assoc, upd_listA, upd_mapA, upd_bun, upd_fam, ptb_listA, factsP_listA, factsP_mapA, ptb_mapA, Nat.mul_one, factsP_bun, ptb_bun, ptb_fam, factsP_fam, factsP_errA, ptb_errA, upd_errA, entCells] at cs
      go_wp2_with fail
      refine (CY.out _ O.preAll).mono ?_
      rintro e w1 ⟨rfl, o⟩
      replace O := O.callp [] o
      clear o
      simp only [put, List.nil_append] at O
      have cs := O.facts
      try simp only [factsP, cellsP, roomP, foots_cons, foots_nil, foots_append, foot_pt, ptb, ptb_mapA, foot_mapA, factsP_mapA, foot_bun, List.append_nil, List.nil_append, List.cons_append, List.nodup_cons, List.nodup_nil, List.mem_cons, List.not_mem_nil, List.mem_singleton, List.forall_mem_cons, not_or, not_false_eq_true, and_true, true_and, or_false, false_or, forall_eq_or_imp, forall_eq, implies_true, Nat.zero_add, Nat.reduceAdd, and_assoc, upd_listA, upd_mapA, upd_bun, upd_fam, ptb_listA, factsP_listA, factsP_mapA, ptb_mapA, Nat.mul_one, factsP_bun, ptb_bun, ptb_fam, factsP_fam, factsP_errA, ptb_errA, upd_errA, entCells] at cs
      go_wp2_with fail
      refine (CF.out _).mono ?_
      rintro e w2 ⟨q, rfl, hq, o⟩
      replace O := O.callp [] o
      clear o
      simp only [put, List.cons_append, List.nil_append] at O
      have cs := O.facts
      try simp only [factsP, cellsP, roomP, foots_cons, foots_nil, foots_append, foot_pt, ptb, ptb_mapA, foot_mapA, factsP_mapA, foot_bun, List.append_nil, List.nil_append, List.cons_append, List.nodup_cons, List.nodup_nil, List.mem_cons, List.not_mem_nil, List.mem_singleton, List.forall_mem_cons, not_or, not_false_eq_true, and_true, true_and, or_false, false_or, forall_eq_or_imp, forall_eq, implies_true, Nat.zero_add, Nat.reduceAdd, and_assoc, upd_listA, upd_mapA, upd_bun, upd_fam, ptb_listA, factsP_listA, factsP_mapA, ptb_mapA, Nat.mul_one, factsP_bun, ptb_bun, ptb_fam, factsP_fam, factsP_errA, ptb_errA, upd_errA, entCells] at cs
      go_wp2_with fail
      refine bodyPost_ret (v := .tuple #[.bool false, errV q]) (by first | (simp [results, Try.results13, go_sem]; done) | (simp [results, Try.results13, go_sem]; rfl)) rfl ⟨q, ls, rfl, hq, rfl, err_end O⟩
    | true =>
      obtain ⟨v, hv, hg⟩ := isK_at hik
      rw [hik] at CY hr
      simp only [if_true] at hr
      subst hr
      have HDK := Lib.hid (show delK key E.now = E.now.eraseIdx (lbK key E.now) by unfold delK; rw [if_pos hik])
      have HX := Lib.hid hv
      have hpl := (List.getElem?_eq_some_iff.1 hv).1
      clear hik hv hg
      generalize lbK key E.now = pp at CY HX hpl HDK
      rw [HDK.out]
      have HSET := Lib.hid (hset E.NA E.nc (E.now.eraseIdx pp))
      clear hset
      have CLOSE := Lib.hid (fun (l : List En) (W : World) (hW : Mem w fp W (({ E with now := l } : LogM).parts ++ fam logA (ls.eraseIdx i) :: .pt S.sb [.int .u64 S.id, .int .i64 S.client, .int .i64 S.m0, .int .i64 S.m1, .int .i64 S.m2, .map (some S.lb), .bool false] 77 :: mapA intK ptrV S.lb (ls.map lgPtr) :: [])) => by
        have := ses_close (L := []) (E' := ({ E with now := l } : LogM)) HI.out rfl hW
        rwa [List.append_nil] at this)
      obtain ⟨tb, eb, ev, ei, WA, wc, was, NA, nc, now⟩ := E
      simp only at CY HX hpl ho1 ho2 HSET HDK CLOSE ⊢
      simp only [LogM.parts, LogM.cells, List.cons_append, List.nil_append] at CLOSE
      obtain ⟨m, hm⟩ : ∃ m, now.length = m + 1 := ⟨now.length - 1, by omega⟩
      have hpm : pp ≤ m := by omega
      have HLE := Lib.hid (show (now.eraseIdx pp).length = m by rw [List.length_eraseIdx, if_pos hpl]; omega)
      have OP := ses_open (L := []) (by rw [List.append_nil]; exact O) HI.out
      obtain ⟨g, rfl, _⟩ := listA_get entLen (OP.hold (entsA NA nc now) (by simp [LogM.parts])) HX.out
      clear OP
      have CD := Lib.hid (fun W (hW : Pre W [entsA (some ⟨g, 0, none⟩) nc now]) => c_Delete W g nc pp m now hm hpm hW)
      have HM := Lib.hid hm
      simp only [sesL] at O
      skip
      go_enter Try.func13, Try.ntmps13
      have cs := O.facts
      try simp only [factsP, cellsP, roomP, foots_cons, foots_nil, foots_append, foot_pt, ptb, ptb_mapA, foot_mapA, factsP_mapA, foot_bun, List.append_nil, List.nil_append, List.cons_append, List.nodup_cons, List.nodup_nil, List.mem_cons, List.not_mem_nil, List.mem_singleton, List.forall_mem_cons, not_or, not_false_eq_true, and_true, true_and, or_false, false_or, forall_eq_or_imp, forall_eq, implies_true, Nat.zero_add, Nat.reduceAdd, and_assoc, upd_listA, upd_mapA, upd_bun, upd_fam, ptb_listA, factsP_listA, factsP_mapA, ptb_mapA, Nat.mul_one, factsP_bun, ptb_bun, ptb_fam, factsP_fam, factsP_errA, ptb_errA, upd_errA, entCells] at cs
      go_wp2_with fail
      refine (CY.out _ O.preAll).mono ?_
      rintro e w1 ⟨rfl, o⟩
      replace O := O.callp [] o
      clear o
      simp only [put, List.nil_append] at O
      replace O := ses_open (L := []) (by rw [List.append_nil]; exact O) HI.out
      simp only [LogM.parts, LogM.cells, List.cons_append, List.nil_append] at O
      rw [HM.out] at O
      have hppi : (pp : Int) + 1 ≤ 9223372036854775807 := by omega
      have cs := O.facts
      try simp only [factsP, cellsP, roomP, foots_cons, foots_nil, foots_append, foot_pt, ptb, ptb_mapA, foot_mapA, factsP_mapA, foot_bun, List.append_nil, List.nil_append, List.cons_append, List.nodup_cons, List.nodup_nil, List.mem_cons, List.not_mem_nil, List.mem_singleton, List.forall_mem_cons, not_or, not_false_eq_true, and_true, true_and, or_false, false_or, forall_eq_or_imp, forall_eq, implies_true, Nat.zero_add, Nat.reduceAdd, and_assoc, upd_listA, upd_mapA, upd_bun, upd_fam, ptb_listA, factsP_listA, factsP_mapA, ptb_mapA, Nat.mul_one, factsP_bun, ptb_bun, ptb_fam, factsP_fam, factsP_errA, ptb_errA, upd_errA, entCells] at cs
      go_wp2_with fail
      first | apply Mem.atCall | apply Mem.atCode | apply Mem.atList
      case h => repeat' (first | (with_reducible exact O) | (with_reducible apply Mem.drew) | (with_reducible apply Mem.drewN) | (with_reducible apply Mem.ext) | (with_reducible apply Mem.alloc) | (with_reducible apply Mem.setCell) | (simp only [ptb, ptb_upd, foots_cons, List.mem_cons, World.size_alloc, size_ext, World.size_setCell, true_or, or_true, eq_self_iff_true, ptb_listA, ptb_mapA, ptb_bun, ptb_fam, ptb_errA]))
      case' k =>
        intro w2 O'
        (try clear O)
        have O := O'
        clear O'
        (first | simp only [sel, rst, List.cons_append, List.nil_append, World.size_alloc, size_ext, World.size_setCell, size_setMap, World.size_drew, size_drewN, upd, List.set_cons_zero, List.set_cons_succ, if_true, if_false, reduceIte, not_false_eq_true, ne_lt0, ne_lt1, ne_lt2, ne_lt3, ne_lt4, upd_listA, upd_mapA, upd_bun, upd_fam, upd_errA, cs] at O | simp only [sel, rst, List.cons_append, List.nil_append, World.size_alloc, size_ext, World.size_setCell, size_setMap, World.size_drew, size_drewN, upd, List.set_cons_zero, List.set_cons_succ, if_true, if_false, reduceIte, not_false_eq_true, ne_lt0, ne_lt1, ne_lt2, ne_lt3, ne_lt4, upd_listA, upd_mapA, upd_bun, upd_fam, upd_errA] at O | skip)
        (try clear cs)
        (try clear v1)
        (try clear v2)
        (try clear v3)
      refine (CD.out _ (O.pre [false, false, true])).mono ?_
      rintro e w3 ⟨rfl, o⟩
      replace O := O.callp [false, false, true] o
      clear o
      simp only [put, List.cons_append, List.nil_append] at O
      have cs := O.facts
      try simp only [factsP, cellsP, roomP, foots_cons, foots_nil, foots_append, foot_pt, ptb, ptb_mapA, foot_mapA, factsP_mapA, foot_bun, List.append_nil, List.nil_append, List.cons_append, List.nodup_cons, List.nodup_nil, List.mem_cons, List.not_mem_nil, List.mem_singleton, List.forall_mem_cons, not_or, not_false_eq_true, and_true, true_and, or_false, false_or, forall_eq_or_imp, forall_eq, implies_true, Nat.zero_add, Nat.reduceAdd, and_assoc, upd_listA, upd_mapA, upd_bun, upd_fam, ptb_listA, factsP_listA, factsP_mapA, ptb_mapA, Nat.mul_one, factsP_bun, ptb_bun, ptb_fam, factsP_fam, factsP_errA, ptb_errA, upd_errA, entCells] at cs
      go_upto_region 5 with fail
      first | apply Mem.atCall | apply Mem.atCode | apply Mem.atList
      case h => repeat' (first | (with_reducible exact O) | (with_reducible apply Mem.drew) | (with_reducible apply Mem.drewN) | (with_reducible apply Mem.ext) | (with_reducible apply Mem.alloc) | (with_reducible apply Mem.setCell) | (simp only [ptb, ptb_upd, foots_cons, List.mem_cons, World.size_alloc, size_ext, World.size_setCell, true_or, or_true, eq_self_iff_true, ptb_listA, ptb_mapA, ptb_bun, ptb_fam, ptb_errA]))
      case' k =>
        intro w4 O'
        (try clear O)
        have O := O'
        clear O'
        (first | simp only [sel, rst, List.cons_append, List.nil_append, World.size_alloc, size_ext, World.size_setCell, size_setMap, World.size_drew, size_drewN, upd, List.set_cons_zero, List.set_cons_succ, if_true, if_false, reduceIte, not_false_eq_true, ne_lt0, ne_lt1, ne_lt2, ne_lt3, ne_lt4, upd_listA, upd_mapA, upd_bun, upd_fam, upd_errA, cs] at O | simp only [sel, rst, List.cons_append, List.nil_append, World.size_alloc, size_ext, World.size_setCell, size_setMap, World.size_drew, size_drewN, upd, List.set_cons_zero, List.set_cons_succ, if_true, if_false, reduceIte, not_false_eq_true, ne_lt0, ne_lt1, ne_lt2, ne_lt3, ne_lt4, upd_listA, upd_mapA, upd_bun, upd_fam, upd_errA] at O | skip)
        (try clear cs)
        (try clear v1)
        (try clear v2)
        (try clear v3)
      have cs := O.facts
      try simp only [factsP, cellsP, roomP, foots_cons, foots_nil, foots_append, foot_pt, ptb, ptb_mapA, foot_mapA, factsP_mapA, foot_bun, List.append_nil, List.nil_append, List.cons_append, List.nodup_cons, List.nodup_nil, List.mem_cons, List.not_mem_nil, List.mem_singleton, List.forall_mem_cons, not_or, not_false_eq_true, and_true, true_and, or_false, false_or, forall_eq_or_imp, forall_eq, implies_true, Nat.zero_add, Nat.reduceAdd, and_assoc, upd_listA, upd_mapA, upd_bun, upd_fam, ptb_listA, factsP_listA, factsP_mapA, ptb_mapA, Nat.mul_one, factsP_bun, ptb_bun, ptb_fam, factsP_fam, factsP_errA, ptb_errA, upd_errA, entCells] at cs
      go_wp2_with fail
      refine bodyPost_ret (v := .tuple #[.bool true, errV none]) (by first | (simp [results, Try.results13, go_sem]; done) | (simp [results, Try.results13, go_sem]; rfl)) rfl ⟨none, _, rfl, ErrIs.nil, HSET.out, err_none _ _ ?_⟩
      have hcl := CLOSE.out (now.eraseIdx pp) w4 (by rw [HLE.out]; exact O)
      exact hcl
  · have CN2 := Lib.hid (fun W (hW : Pre W (sesL S done ls)) => CN.out W hc0 hW)
    have CF := Lib.hid (fun W => s_fault W nDelete c)
    have hc1 : (c == 0) = false := by simpa using hc0
    have hc2 : (c != 0) = true := by simpa using hc0
    unfold delS at hr
    rw [← hc, if_neg (fun x => hc0 x.1)] at hr
    subst hr
    clear CN h hok hc
    rw [SV] at CN2 ⊢
    have HC0 := Lib.hid hc0
    clear hc0 SV
    simp only [sesL] at O
    skip
    unfold nDelete at CF
    go_enter Try.func13, Try.ntmps13
    have cs := O.facts
    try simp only [factsP, cellsP, roomP, foots_cons, foots_nil, foots_append, foot_pt, ptb, ptb_mapA, foot_mapA, factsP_mapA, foot_bun, List.append_nil, List.nil_append, List.cons_append, List.nodup_cons, List.nodup_nil, List.mem_cons, List.not_mem_nil, List.mem_singleton, List.forall_mem_cons, not_or, not_false_eq_true, and_true, true_and, or_false, false_or, forall_eq_or_imp, forall_eq, implies_true, Nat.zero_add, Nat.reduceAdd, and_assoc, upd_listA, upd_mapA, upd_bun, upd_fam, ptb_listA, factsP_listA, factsP_mapA, ptb_mapA, Nat.mul_one, factsP_bun, ptb_bun, ptb_fam, factsP_fam, factsP_errA, ptb_errA, upd_errA, entCells] at cs
    go_wp2_with fail
    refine (CN2.out _ O.preAll).mono ?_
    rintro e w1 ⟨rfl, o⟩
    replace O := O.callp [] o
    clear o
    simp only [put, List.nil_append] at O
    have cs := O.facts
    try simp only [factsP, cellsP, roomP, foots_cons, foots_nil, foots_append, foot_pt, ptb, ptb_mapA, foot_mapA, factsP_mapA, foot_bun, List.append_nil, List.nil_append, List.cons_append, List.nodup_cons, List.nodup_nil, List.mem_cons, List.not_mem_nil, List.mem_singleton, List.forall_mem_cons, not_or, not_false_eq_true, and_true, true_and, or_false, false_or, forall_eq_or_imp, forall_eq, implies_true, Nat.zero_add, Nat.reduceAdd, and_assoc, upd_listA, upd_mapA, upd_bun, upd_fam, ptb_listA, factsP_listA, factsP_mapA, ptb_mapA, Nat.mul_one, factsP_bun, ptb_bun, ptb_fam, factsP_fam, factsP_errA, ptb_errA, upd_errA, entCells] at cs
    go_wp2_with fail
    refine (CF.out _).mono ?_
    rintro e w2 ⟨q, rfl, hq, o⟩
    replace O := O.callp [] o
    clear o
    simp only [put, List.cons_append, List.nil_append] at O
    have cs := O.facts
    try simp only [factsP, cellsP, roomP, foots_cons, foots_nil, foots_append, foot_pt, ptb, ptb_mapA, foot_mapA, factsP_mapA, foot_bun, List.append_nil, List.nil_append, List.cons_append, List.nodup_cons, List.nodup_nil, List.mem_cons, List.not_mem_nil, List.mem_singleton, List.forall_mem_cons, not_or, not_false_eq_true, and_true, true_and, or_false, false_or, forall_eq_or_imp, forall_eq, implies_true, Nat.zero_add, Nat.reduceAdd, and_assoc, upd_listA, upd_mapA, upd_bun, upd_fam, ptb_listA, factsP_listA, factsP_mapA, ptb_mapA, Nat.mul_one, factsP_bun, ptb_bun, ptb_fam, factsP_fam, factsP_errA, ptb_errA, upd_errA, entCells] at cs
    go_wp2_with fail
    refine bodyPost_ret (v := .tuple #[.bool false, errV q]) (by first | (simp [results, Try.results13, go_sem]; done) | (simp [results, Try.results13, go_sem]; rfl)) rfl ⟨q, ls, rfl, hq, rfl, err_end O⟩
set_option maxRecDepth 100000 in
set_option maxHeartbeats 4000000 in
theorem s_Put (w : World) (S : SesH) (done : Bool) (ls : List LogM) (key v : ByteArray) (hk : key.size ≤ 1048576) (hvs : v.size ≤ 1048576) (hok : LogsOk ls) (h : Pre w (sesL S done ls)) :
    Calls Try.prog 12 #[S.val, .string key, .string v] w (fun r w' => ∃ q ls', r = .returned (errV q) ∧ ErrIs q (putS done (ls.map LogM.p) key v).1 ∧ ls'.map LogM.p = (putS done (ls.map LogM.p) key v).2 ∧ Mem w (foots (sesL S done ls)) w' (sesL S done ls' ++ [errA q (putS done (ls.map LogM.p) key v).1 nPut])) := by
  obtain ⟨r, hr⟩ : ∃ r, r = putS done (ls.map LogM.p) key v := ⟨_, rfl⟩
  rw [← hr]
  have O : Mem w (foots (sesL S done ls)) w (sesL S done ls) := h
  generalize hfp : foots (sesL S done ls) = fp at O ⊢
  clear hfp
  have CN := Lib.hid (fun W hc (hW : Pre W (sesL S done ls)) => s_at_no W S done ls key v hk hvs hc hW)
  rw [codeK_p] at CN
  obtain ⟨c, hc⟩ : ∃ c, c = codeP done (ls.map LogM.p) key v := ⟨_, rfl⟩
  rw [← hc] at CN
  have SV : S.val = .pointer (some ⟨S.sb, 0, none⟩) := rfl
  unfold putS at hr
  rw [← hc] at hr
  by_cases hc0 : c = 0
  · obtain ⟨rfl, k1, k2, k3⟩ := codeP_zero (hc.symm.trans hc0)
    obtain ⟨i, E, hi, hb⟩ := has_at k3
    have hnd := ses_nodup h
    have hnow := find_at hnd hi
    have hset := fun A c l => (set_now hnd hi A c l).trans (by rw [hb] : _ = setNow (ls.map LogM.p) (bucketOf key) l)
    rw [hb] at hnow
    obtain ⟨ho1, ho2⟩ := hok E (List.mem_of_getElem? hi)
    have CY := Lib.hid (fun W (hW : Pre W (sesL S false ls)) => s_at W S ls key v hk hvs (by rw [codeK_p, ← hc, hc0]) i E hi hb ho1 ho2 hW)
    rw [hnow, if_pos hc0] at hr
    have HI := Lib.hid hi
    clear CN hc k1 k2 k3 hnd hnow hb hok h hc0
    rw [SV] at CY ⊢
    clear SV
    have CLOSE := Lib.hid (fun (NA : Option Addr) (nc : Nat) (l : List En) (W : World) (hW : Mem w fp W (({ E with NA := NA, nc := nc, now := l } : LogM).parts ++ fam logA (ls.eraseIdx i) :: .pt S.sb [.int .u64 S.id, .int .i64 S.client, .int .i64 S.m0, .int .i64 S.m1, .int .i64 S.m2, .map (some S.lb), .bool false] 77 :: mapA intK ptrV S.lb (ls.map lgPtr) :: [])) => by
      have := ses_close (L := []) (E' := ({ E with NA := NA, nc := nc, now := l } : LogM)) HI.out rfl hW
      rwa [List.append_nil] at this)
    cases hik : isK key E.now with
    | true =>
      obtain ⟨v0, hv, hg⟩ := isK_at hik
      rw [hik] at CY hr
      simp only [Bool.true_eq_false, false_and, if_false] at hr
      subst hr
      have HDK := Lib.hid (show putK key v E.now = E.now.set (lbK key E.now) (key, v) by unfold putK; rw [if_pos hik])
      have HX := Lib.hid hv
      have hpl := (List.getElem?_eq_some_iff.1 hv).1
      clear hik hv hg
      generalize lbK key E.now = pp at CY HX hpl HDK
      rw [HDK.out]
      have HSET := Lib.hid (hset E.NA E.nc (E.now.set pp (key, v)))
      clear hset
      obtain ⟨tb, eb, ev, ei, WA, wc, was, NA, nc, now⟩ := E
      simp only at CY HX hpl ho1 ho2 HSET HDK CLOSE ⊢
      simp only [LogM.parts, LogM.cells, List.cons_append, List.nil_append] at CLOSE
      have OP := ses_open (L := []) (by rw [List.append_nil]; exact O) HI.out
      obtain ⟨g, rfl, _⟩ := listA_get entLen (OP.hold (entsA NA nc now) (by simp [LogM.parts])) HX.out
      clear OP
      have HLE := Lib.hid (show (now.set pp (key, v)).length = now.length from List.length_set)
      have hppi : (pp : Int) < now.length := by omega
      simp only [sesL] at O
      skip
      go_enter Try.func12, Try.ntmps12
      have cs := O.facts
      try simp only [factsP, cellsP, roomP, foots_cons, foots_nil, foots_append, foot_pt, ptb, ptb_mapA, foot_mapA, factsP_mapA, foot_bun, List.append_nil, List.nil_append, List.cons_append, List.nodup_cons, List.nodup_nil, List.mem_cons, List.not_mem_nil, List.mem_singleton, List.forall_mem_cons, not_or, not_false_eq_true, and_true, true_and, or_false, false_or, forall_eq_or_imp, forall_eq, implies_true, Nat.zero_add, Nat.reduceAdd, and_assoc, upd_listA, upd_mapA, upd_bun, upd_fam, ptb_listA, factsP_listA, factsP_mapA, ptb_mapA, Nat.mul_one, factsP_bun, ptb_bun, ptb_fam, factsP_fam, factsP_errA, ptb_errA, upd_errA, entCells] at cs
      go_wp2_with fail
      refine (CY.out _ O.preAll).mono ?_
      rintro e w1 ⟨rfl, o⟩
      replace O := O.callp [] o
      clear o
      simp only [put, List.nil_append] at O
      replace O := ses_open (L := []) (by rw [List.append_nil]; exact O) HI.out
      simp only [LogM.parts, LogM.cells, List.cons_append, List.nil_append] at O
      skip
      have cs := O.facts
      try simp only [factsP, cellsP, roomP, foots_cons, foots_nil, foots_append, foot_pt, ptb, ptb_mapA, foot_mapA, factsP_mapA, foot_bun, List.append_nil, List.nil_append, List.cons_append, List.nodup_cons, List.nodup_nil, List.mem_cons, List.not_mem_nil, List.mem_singleton, List.forall_mem_cons, not_or, not_false_eq_true, and_true, true_and, or_false, false_or, forall_eq_or_imp, forall_eq, implies_true, Nat.zero_add, Nat.reduceAdd, and_assoc, upd_listA, upd_mapA, upd_bun, upd_fam, ptb_listA, factsP_listA, factsP_mapA, ptb_mapA, Nat.mul_one, factsP_bun, ptb_bun, ptb_fam, factsP_fam, factsP_errA, ptb_errA, upd_errA, entCells] at cs
      try have v1 := (listA_at entLen (O.hold (entsA (some ⟨g, 0, none⟩) nc now) (List.mem_cons_of_mem _ (List.mem_cons_of_mem _ (List.mem_cons_self ..)))) HX.out)
      try simp only [cellsQ, roomP, and_assoc, and_true, true_and, Nat.add_zero, Nat.zero_add, Nat.reduceAdd, factsP, cellsP, roomP, foots_cons, foots_nil, foots_append, foot_pt, ptb, ptb_mapA, foot_mapA, factsP_mapA, foot_bun, List.append_nil, List.nil_append, List.cons_append, List.nodup_cons, List.nodup_nil, List.mem_cons, List.not_mem_nil, List.mem_singleton, List.forall_mem_cons, not_or, not_false_eq_true, and_true, true_and, or_false, false_or, forall_eq_or_imp, forall_eq, implies_true, Nat.zero_add, Nat.reduceAdd, and_assoc, upd_listA, upd_mapA, upd_bun, upd_fam, ptb_listA, factsP_listA, factsP_mapA, ptb_mapA, Nat.mul_one, factsP_bun, ptb_bun, ptb_fam, factsP_fam, factsP_errA, ptb_errA, upd_errA, entCells] at v1
      go_upto_region 9 with fail
      have O2 := (O.front1 [false, false, true] rfl).listSet (j := 1) (v := .string v) (a' := ((key, v) : En)) entLen HX.out (by omega) rfl
      replace O2 := O2.unfront
      simp only [put, List.cons_append, List.nil_append] at O2
      clear O cs v1
      have O := O2
      clear O2
      skip
      refine Mem.atCode O ?_
      clear O
      intro w2 O
      have cs := O.facts
      try simp only [factsP, cellsP, roomP, foots_cons, foots_nil, foots_append, foot_pt, ptb, ptb_mapA, foot_mapA, factsP_mapA, foot_bun, List.append_nil, List.nil_append, List.cons_append, List.nodup_cons, List.nodup_nil, List.mem_cons, List.not_mem_nil, List.mem_singleton, List.forall_mem_cons, not_or, not_false_eq_true, and_true, true_and, or_false, false_or, forall_eq_or_imp, forall_eq, implies_true, Nat.zero_add, Nat.reduceAdd, and_assoc, upd_listA, upd_mapA, upd_bun, upd_fam, ptb_listA, factsP_listA, factsP_mapA, ptb_mapA, Nat.mul_one, factsP_bun, ptb_bun, ptb_fam, factsP_fam, factsP_errA, ptb_errA, upd_errA, entCells] at cs
      go_wp2_with fail
      go_ret
      have hcl := CLOSE.out _ _ (now.set pp (key, v)) w2 (by rw [HLE.out]; exact O)
      exact ⟨none, _, rfl, ErrIs.nil, HSET.out, err_none _ _ hcl⟩
    | false =>
      rw [hik] at CY hr
      simp only [true_and] at hr
      have HDK := Lib.hid (show putK key v E.now = E.now.take (lbK key E.now) ++ (key, v) :: E.now.drop (lbK key E.now) by unfold putK; rw [if_neg (by rw [hik]; simp)])
      have hpl := lbK_le key E.now
      clear hik
      rw [HDK.out] at hr
      generalize lbK key E.now = pp at CY hpl hr
      clear HDK
      by_cases hfull : 8 ≤ E.now.length
      · rw [if_pos hfull] at hr
        subst hr
        clear hset
        obtain ⟨tb, eb, ev, ei, WA, wc, was, NA, nc, now⟩ := E
        simp only at CY hpl ho1 ho2 CLOSE hfull ⊢
        simp only [LogM.parts, LogM.cells, List.cons_append, List.nil_append] at CLOSE
        have CF := Lib.hid (fun W => s_fault W nPut 204)
        unfold nPut at CF
        have hfi : (8 : Int) ≤ now.length := by omega
        simp only [sesL] at O
        skip
        go_enter Try.func12, Try.ntmps12
        have cs := O.facts
        try simp only [factsP, cellsP, roomP, foots_cons, foots_nil, foots_append, foot_pt, ptb, ptb_mapA, foot_mapA, factsP_mapA, foot_bun, List.append_nil, List.nil_append, List.cons_append, List.nodup_cons, List.nodup_nil, List.mem_cons, List.not_mem_nil, List.mem_singleton, List.forall_mem_cons, not_or, not_false_eq_true, and_true, true_and, or_false, false_or, forall_eq_or_imp, forall_eq, implies_true, Nat.zero_add, Nat.reduceAdd, and_assoc, upd_listA, upd_mapA, upd_bun, upd_fam, ptb_listA, factsP_listA, factsP_mapA, ptb_mapA, Nat.mul_one, factsP_bun, ptb_bun, ptb_fam, factsP_fam, factsP_errA, ptb_errA, upd_errA, entCells] at cs
        go_wp2_with fail
        refine (CY.out _ O.preAll).mono ?_
        rintro e w1 ⟨rfl, o⟩
        replace O := O.callp [] o
        clear o
        simp only [put, List.nil_append] at O
        replace O := ses_open (L := []) (by rw [List.append_nil]; exact O) HI.out
        simp only [LogM.parts, LogM.cells, List.cons_append, List.nil_append] at O
        have cs := O.facts
        try simp only [factsP, cellsP, roomP, foots_cons, foots_nil, foots_append, foot_pt, ptb, ptb_mapA, foot_mapA, factsP_mapA, foot_bun, List.append_nil, List.nil_append, List.cons_append, List.nodup_cons, List.nodup_nil, List.mem_cons, List.not_mem_nil, List.mem_singleton, List.forall_mem_cons, not_or, not_false_eq_true, and_true, true_and, or_false, false_or, forall_eq_or_imp, forall_eq, implies_true, Nat.zero_add, Nat.reduceAdd, and_assoc, upd_listA, upd_mapA, upd_bun, upd_fam, ptb_listA, factsP_listA, factsP_mapA, ptb_mapA, Nat.mul_one, factsP_bun, ptb_bun, ptb_fam, factsP_fam, factsP_errA, ptb_errA, upd_errA, entCells] at cs
        go_wp2_with fail
        refine (CF.out _).mono ?_
        rintro e w2 ⟨q, rfl, hq, o⟩
        replace O := O.callp [] o
        clear o
        simp only [put, List.cons_append, List.nil_append] at O
        have cs := O.facts
        try simp only [factsP, cellsP, roomP, foots_cons, foots_nil, foots_append, foot_pt, ptb, ptb_mapA, foot_mapA, factsP_mapA, foot_bun, List.append_nil, List.nil_append, List.cons_append, List.nodup_cons, List.nodup_nil, List.mem_cons, List.not_mem_nil, List.mem_singleton, List.forall_mem_cons, not_or, not_false_eq_true, and_true, true_and, or_false, false_or, forall_eq_or_imp, forall_eq, implies_true, Nat.zero_add, Nat.reduceAdd, and_assoc, upd_listA, upd_mapA, upd_bun, upd_fam, ptb_listA, factsP_listA, factsP_mapA, ptb_mapA, Nat.mul_one, factsP_bun, ptb_bun, ptb_fam, factsP_fam, factsP_errA, ptb_errA, upd_errA, entCells] at cs
        go_wp2_with fail
        go_ret
        have hcl := CLOSE.out NA nc now w2 (O.sel [false, true, true, true, true, true, true])
        have e1 : ls.set i (LogM.mk tb eb ev ei WA wc was NA nc now) = ls := by
          have := HI.out
          obtain ⟨hlt, hx⟩ := List.getElem?_eq_some_iff.1 this
          rw [← hx]; exact List.set_getElem_self hlt
        refine ⟨q, ls, rfl, hq, rfl, ?_⟩
        have O2 := ses_close (L := [errA q 204 nPut]) (E' := LogM.mk tb eb ev ei WA wc was NA nc now) (S := S) (done := false) HI.out rfl (by
          replace O := (((((((O).front [true]).front [false, false, false, false, false, false, true]).front [false, false, false, false, false, false, true]).front [false, false, false, false, false, false, true]).front [false, false, false, false, false, false, true]).front [false, false, false, false, false, false, true]).front [false, false, false, false, false, false, true]
          simp only [Tk.sel, rst, List.cons_append, List.nil_append] at O
          replace O := O.sel [true, true, true, true, true, true, true]
          simp only [Tk.sel] at O
          exact O)
        rw [e1] at O2
        exact O2
      · rw [if_neg hfull] at hr
        subst hr
        have HSET := Lib.hid (fun A c => hset A c (E.now.take pp ++ (key, v) :: E.now.drop pp))
        clear hset
        obtain ⟨tb, eb, ev, ei, WA, wc, was, NA, nc, now⟩ := E
        simp only at CY hpl ho1 ho2 CLOSE HSET hfull ⊢
        simp only [LogM.parts, LogM.cells, List.cons_append, List.nil_append] at CLOSE
        have hfi : decide ((8 : Int) ≤ (now.length : Int)) = false := by simp; omega
        obtain ⟨n, hn⟩ : ∃ n, now.length = n := ⟨_, rfl⟩
        have CI := Lib.hid (fun W vb (hW : Pre W [entsA NA nc now, .pt vb [.string key, .string v] 65]) => c_Insert W NA nc pp now key v vb n hn (by omega) (by omega) hW)
        have HLE := Lib.hid (show (now.take pp ++ (key, v) :: now.drop pp).length = n + 1 by rw [List.length_append, List.length_cons, List.length_take, List.length_drop]; omega)
        rw [hn] at hfi
        have HN := Lib.hid hn
        clear hn hfull
        simp only [sesL] at O
        skip
        go_enter Try.func12, Try.ntmps12
        have cs := O.facts
        try simp only [factsP, cellsP, roomP, foots_cons, foots_nil, foots_append, foot_pt, ptb, ptb_mapA, foot_mapA, factsP_mapA, foot_bun, List.append_nil, List.nil_append, List.cons_append, List.nodup_cons, List.nodup_nil, List.mem_cons, List.not_mem_nil, List.mem_singleton, List.forall_mem_cons, not_or, not_false_eq_true, and_true, true_and, or_false, false_or, forall_eq_or_imp, forall_eq, implies_true, Nat.zero_add, Nat.reduceAdd, and_assoc, upd_listA, upd_mapA, upd_bun, upd_fam, ptb_listA, factsP_listA, factsP_mapA, ptb_mapA, Nat.mul_one, factsP_bun, ptb_bun, ptb_fam, factsP_fam, factsP_errA, ptb_errA, upd_errA, entCells] at cs
        go_wp2_with fail
        refine (CY.out _ O.preAll).mono ?_
        rintro e w1 ⟨rfl, o⟩
        replace O := O.callp [] o
        clear o
        simp only [put, List.nil_append] at O
        replace O := ses_open (L := []) (by rw [List.append_nil]; exact O) HI.out
        simp only [LogM.parts, LogM.cells, List.cons_append, List.nil_append] at O
        rw [HN.out] at O
        have cs := O.facts
        try simp only [factsP, cellsP, roomP, foots_cons, foots_nil, foots_append, foot_pt, ptb, ptb_mapA, foot_mapA, factsP_mapA, foot_bun, List.append_nil, List.nil_append, List.cons_append, List.nodup_cons, List.nodup_nil, List.mem_cons, List.not_mem_nil, List.mem_singleton, List.forall_mem_cons, not_or, not_false_eq_true, and_true, true_and, or_false, false_or, forall_eq_or_imp, forall_eq, implies_true, Nat.zero_add, Nat.reduceAdd, and_assoc, upd_listA, upd_mapA, upd_bun, upd_fam, ptb_listA, factsP_listA, factsP_mapA, ptb_mapA, Nat.mul_one, factsP_bun, ptb_bun, ptb_fam, factsP_fam, factsP_errA, ptb_errA, upd_errA, entCells] at cs
        go_wp2_with fail
        first | apply Mem.atCall | apply Mem.atCode | apply Mem.atList
        case h => repeat' (first | (with_reducible exact O) | (with_reducible apply Mem.drew) | (with_reducible apply Mem.drewN) | (with_reducible apply Mem.ext) | (with_reducible apply Mem.alloc) | (with_reducible apply Mem.setCell) | (simp only [ptb, ptb_upd, foots_cons, List.mem_cons, World.size_alloc, size_ext, World.size_setCell, true_or, or_true, eq_self_iff_true, ptb_listA, ptb_mapA, ptb_bun, ptb_fam, ptb_errA]))
        case' k =>
          intro w2 O'
          (try clear O)
          have O := O'
          clear O'
          (first | simp only [sel, rst, List.cons_append, List.nil_append, World.size_alloc, size_ext, World.size_setCell, size_setMap, World.size_drew, size_drewN, upd, List.set_cons_zero, List.set_cons_succ, if_true, if_false, reduceIte, not_false_eq_true, ne_lt0, ne_lt1, ne_lt2, ne_lt3, ne_lt4, upd_listA, upd_mapA, upd_bun, upd_fam, upd_errA, cs] at O | simp only [sel, rst, List.cons_append, List.nil_append, World.size_alloc, size_ext, World.size_setCell, size_setMap, World.size_drew, size_drewN, upd, List.set_cons_zero, List.set_cons_succ, if_true, if_false, reduceIte, not_false_eq_true, ne_lt0, ne_lt1, ne_lt2, ne_lt3, ne_lt4, upd_listA, upd_mapA, upd_bun, upd_fam, upd_errA] at O | skip)
          (try clear cs)
          (try clear v1)
          (try clear v2)
          (try clear v3)
        generalize w1.heap.size = vb at O ⊢
        replace O := (((((((O).front [false, false, false, false, false, false, true]).front [false, false, false, false, false, false, true]).front [false, false, false, false, false, false, true]).front [false, false, false, false, false, true]).front [false, false, false, false, false, true]).front [false, false, false, false, false, true]).front [false, false, false, false, false, false, true]
        simp only [Tk.sel, rst, List.cons_append, List.nil_append] at O
        replace O := O.sel [true, true, true, true, true, true, true]
        simp only [Tk.sel] at O
        refine (CI.out _ vb (O.pre [true, true])).mono ?_
        rintro e w3 ⟨A', c', rfl, o⟩
        replace O := O.callp [true, true] o
        clear o CI
        simp only [put, List.cons_append, List.nil_append] at O
        have cs := O.facts
        try simp only [factsP, cellsP, roomP, foots_cons, foots_nil, foots_append, foot_pt, ptb, ptb_mapA, foot_mapA, factsP_mapA, foot_bun, List.append_nil, List.nil_append, List.cons_append, List.nodup_cons, List.nodup_nil, List.mem_cons, List.not_mem_nil, List.mem_singleton, List.forall_mem_cons, not_or, not_false_eq_true, and_true, true_and, or_false, false_or, forall_eq_or_imp, forall_eq, implies_true, Nat.zero_add, Nat.reduceAdd, and_assoc, upd_listA, upd_mapA, upd_bun, upd_fam, ptb_listA, factsP_listA, factsP_mapA, ptb_mapA, Nat.mul_one, factsP_bun, ptb_bun, ptb_fam, factsP_fam, factsP_errA, ptb_errA, upd_errA, entCells] at cs
        go_upto_region 9 with fail
        first | apply Mem.atCall | apply Mem.atCode | apply Mem.atList
        case h => repeat' (first | (with_reducible exact O) | (with_reducible apply Mem.drew) | (with_reducible apply Mem.drewN) | (with_reducible apply Mem.ext) | (with_reducible apply Mem.alloc) | (with_reducible apply Mem.setCell) | (simp only [ptb, ptb_upd, foots_cons, List.mem_cons, World.size_alloc, size_ext, World.size_setCell, true_or, or_true, eq_self_iff_true, ptb_listA, ptb_mapA, ptb_bun, ptb_fam, ptb_errA]))
        case' k =>
          intro w4 O'
          (try clear O)
          have O := O'
          clear O'
          (first | simp only [sel, rst, List.cons_append, List.nil_append, World.size_alloc, size_ext, World.size_setCell, size_setMap, World.size_drew, size_drewN, upd, List.set_cons_zero, List.set_cons_succ, if_true, if_false, reduceIte, not_false_eq_true, ne_lt0, ne_lt1, ne_lt2, ne_lt3, ne_lt4, upd_listA, upd_mapA, upd_bun, upd_fam, upd_errA, cs] at O | simp only [sel, rst, List.cons_append, List.nil_append, World.size_alloc, size_ext, World.size_setCell, size_setMap, World.size_drew, size_drewN, upd, List.set_cons_zero, List.set_cons_succ, if_true, if_false, reduceIte, not_false_eq_true, ne_lt0, ne_lt1, ne_lt2, ne_lt3, ne_lt4, upd_listA, upd_mapA, upd_bun, upd_fam, upd_errA] at O | skip)
          (try clear cs)
          (try clear v1)
          (try clear v2)
          (try clear v3)
        have cs := O.facts
        try simp only [factsP, cellsP, roomP, foots_cons, foots_nil, foots_append, foot_pt, ptb, ptb_mapA, foot_mapA, factsP_mapA, foot_bun, List.append_nil, List.nil_append, List.cons_append, List.nodup_cons, List.nodup_nil, List.mem_cons, List.not_mem_nil, List.mem_singleton, List.forall_mem_cons, not_or, not_false_eq_true, and_true, true_and, or_false, false_or, forall_eq_or_imp, forall_eq, implies_true, Nat.zero_add, Nat.reduceAdd, and_assoc, upd_listA, upd_mapA, upd_bun, upd_fam, ptb_listA, factsP_listA, factsP_mapA, ptb_mapA, Nat.mul_one, factsP_bun, ptb_bun, ptb_fam, factsP_fam, factsP_errA, ptb_errA, upd_errA, entCells] at cs
        go_wp2_with fail
        go_ret
        replace O := ((((((O).front [false, false, false, false, false, false, true]).front [false, false, false, false, false, false, true]).front [false, false, false, false, false, false, true]).front [false, false, false, true]).front [false, false, false, false, false, false, true]).front [false, false, false, false, false, false, true]
        simp only [Tk.sel, rst, List.cons_append, List.nil_append] at O
        replace O := O.sel [true, true, true, true, true, true]
        simp only [Tk.sel] at O
        have hcl := CLOSE.out A' c' (now.take pp ++ (key, v) :: now.drop pp) w4 (by rw [HLE.out]; exact O)
        exact ⟨none, _, rfl, ErrIs.nil, HSET.out A' c', err_none _ _ hcl⟩
  · have CN2 := Lib.hid (fun W (hW : Pre W (sesL S done ls)) => CN.out W hc0 hW)
    have CF := Lib.hid (fun W => s_fault W nPut c)
    have hc1 : (c == 0) = false := by simpa using hc0
    have hc2 : (c != 0) = true := by simpa using hc0
    rw [if_neg hc0] at hr
    subst hr
    clear CN h hok hc
    rw [SV] at CN2 ⊢
    have HC0 := Lib.hid hc0
    clear hc0 SV
    simp only [sesL] at O
    skip
    unfold nPut at CF
    go_enter Try.func12, Try.ntmps12
    have cs := O.facts
    try simp only [factsP, cellsP, roomP, foots_cons, foots_nil, foots_append, foot_pt, ptb, ptb_mapA, foot_mapA, factsP_mapA, foot_bun, List.append_nil, List.nil_append, List.cons_append, List.nodup_cons, List.nodup_nil, List.mem_cons, List.not_mem_nil, List.mem_singleton, List.forall_mem_cons, not_or, not_false_eq_true, and_true, true_and, or_false, false_or, forall_eq_or_imp, forall_eq, implies_true, Nat.zero_add, Nat.reduceAdd, and_assoc, upd_listA, upd_mapA, upd_bun, upd_fam, ptb_listA, factsP_listA, factsP_mapA, ptb_mapA, Nat.mul_one, factsP_bun, ptb_bun, ptb_fam, factsP_fam, factsP_errA, ptb_errA, upd_errA, entCells] at cs
    go_wp2_with fail
    refine (CN2.out _ O.preAll).mono ?_
    rintro e w1 ⟨rfl, o⟩
    replace O := O.callp [] o
    clear o
    simp only [put, List.nil_append] at O
    have cs := O.facts
    try simp only [factsP, cellsP, roomP, foots_cons, foots_nil, foots_append, foot_pt, ptb, ptb_mapA, foot_mapA, factsP_mapA, foot_bun, List.append_nil, List.nil_append, List.cons_append, List.nodup_cons, List.nodup_nil, List.mem_cons, List.not_mem_nil, List.mem_singleton, List.forall_mem_cons, not_or, not_false_eq_true, and_true, true_and, or_false, false_or, forall_eq_or_imp, forall_eq, implies_true, Nat.zero_add, Nat.reduceAdd, and_assoc, upd_listA, upd_mapA, upd_bun, upd_fam, ptb_listA, factsP_listA, factsP_mapA, ptb_mapA, Nat.mul_one, factsP_bun, ptb_bun, ptb_fam, factsP_fam, factsP_errA, ptb_errA, upd_errA, entCells] at cs
    go_wp2_with fail
    refine (CF.out _).mono ?_
    rintro e w2 ⟨q, rfl, hq, o⟩
    replace O := O.callp [] o
    clear o
    simp only [put, List.cons_append, List.nil_append] at O
    have cs := O.facts
    try simp only [factsP, cellsP, roomP, foots_cons, foots_nil, foots_append, foot_pt, ptb, ptb_mapA, foot_mapA, factsP_mapA, foot_bun, List.append_nil, List.nil_append, List.cons_append, List.nodup_cons, List.nodup_nil, List.mem_cons, List.not_mem_nil, List.mem_singleton, List.forall_mem_cons, not_or, not_false_eq_true, and_true, true_and, or_false, false_or, forall_eq_or_imp, forall_eq, implies_true, Nat.zero_add, Nat.reduceAdd, and_assoc, upd_listA, upd_mapA, upd_bun, upd_fam, ptb_listA, factsP_listA, factsP_mapA, ptb_mapA, Nat.mul_one, factsP_bun, ptb_bun, ptb_fam, factsP_fam, factsP_errA, ptb_errA, upd_errA, entCells] at cs
    go_wp2_with fail
    go_ret
    exact ⟨q, ls, rfl, hq, rfl, err_end O⟩
end Go.Proofs.Ytomcekjhehceoaa
