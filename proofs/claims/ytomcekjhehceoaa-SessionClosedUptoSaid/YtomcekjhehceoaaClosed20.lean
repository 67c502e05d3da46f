/- WALK: what is committed is closed. -/
import Derived.Test.YtomcekjhehceoaaOwn20
import Derived.Test.YtomcekjhehceoaaNil20
import Derived.Test.YtomcekjhehceoaaSesS20
set_option linter.unusedVariables false
set_option linter.unusedSimpArgs false
namespace Go.Proofs.Ytomcekjhehceoaa
open Go.RowKit Go.Tk
theorem fr_down {w0 w W : World} {L : List Asn} {G : List Nat} (O : Mem w0 [] w L) (hs : ∀ b ∈ G, b ∈ foots L) (f : Fr G w W) : Fr [] w0 W := O.fr.trans f (fun b hb => (O.mine b (hs b hb)).imp id id)
theorem gotP_done (ps : List LogP) (k : ByteArray) : gotP true ps k = (.empty, false) := by simp [gotP, codeP]
theorem codeP_done (ps : List LogP) (k v : ByteArray) : codeP true ps k v = 201 := by simp [codeP]
theorem delS_done (ps : List LogP) (k : ByteArray) : delS true ps k = (false, ps) := by simp [delS, codeP]
theorem putS_done (ps : List LogP) (k v : ByteArray) : putS true ps k v = (201, ps) := by simp [putS, codeP]
theorem scanS_done (ps : List LogP) (a b : ByteArray) : scanS true ps a b = [] := by simp [scanS, codeScan]
theorem codeScan_done (ps : List LogP) (a b : ByteArray) : codeScan true ps a b = 201 := by simp [codeScan]
theorem learnS_done (ps : List LogP) (x : ItemR) (d : List En) : learnS true ps x d = (201, ps) := by simp [learnS]
set_option maxRecDepth 100000 in
set_option maxHeartbeats 16000000 in
theorem closed_walk (w : World) (V1 V2 : Value) (l1 l2 : List OpR) (h1 : ArgList w 13 OpR.cells V1 l1) (h2 : ArgList w 13 OpR.cells V2 l2) (ok1 : ∀ o ∈ l1, o.ok w) (ok2 : ∀ o ∈ l2, o.ok w) :
    Calls Try.prog 7 #[V1, V2] w (fun e w' => e = .returned (.bool true) ∧ Below w.heap.size w w') := by
  obtain ⟨hl1, A1, c1, rfl, hc1⟩ := h1
  obtain ⟨hl2, A2, c2, rfl, hc2⟩ := h2
  have HC1 := Lib.hid hc1
  have HC2 := Lib.hid hc2
  have HK1 := Lib.hid ok1
  have HK2 := Lib.hid ok2
  have HL1 := Lib.hid hl1
  have HL2 := Lib.hid hl2
  clear hc1 hc2 ok1 ok2 hl1 hl2
  have O : Mem w [] w [] := Mem.begin
  have EN : ∀ W, (binOp .neq 25 .nilIface .nilIface).run Try.prog W = .ok (.bool false) W := fun W => by kernel_rfl
  have EF : ∀ fb W, (binOp .neq 25 (.iface 92 (.pointer (some ⟨fb, 0, none⟩))) .nilIface).run Try.prog W = .ok (.bool true) W := fun fb W => by kernel_rfl
  skip
  go_enter Try.func7, Try.ntmps7
  have cs := O.facts
  try simp only [factsP, cellsP, roomP, foots_cons, foots_nil, foots_append, foot_pt, ptb, ptb_mapA, foot_mapA, factsP_mapA, foot_bun, List.append_nil, List.nil_append, List.cons_append, List.nodup_cons, List.nodup_nil, List.mem_cons, List.not_mem_nil, List.mem_singleton, List.forall_mem_cons, not_or, not_false_eq_true, and_true, true_and, or_false, false_or, forall_eq_or_imp, forall_eq, implies_true, Nat.zero_add, Nat.reduceAdd, and_assoc, upd_listA, upd_mapA, upd_bun, upd_fam, upd_datasA, ptb_datasA, factsP_datasA, ptb_listA, factsP_listA, factsP_mapA, ptb_mapA, Nat.mul_one, factsP_bun, ptb_bun, ptb_fam, factsP_fam, factsP_errA, ptb_errA, upd_errA, itCells] at cs
  go_wp2_with fail
  refine (s_New _ 5 1 1 2 3 (by decide) (by decide) (by decide) (by decide) (by decide) (by decide) (by decide) (by decide)).mono ?_
  rintro e w1 ⟨S, hS1, hS2, hS3, hS4, hS5, rfl, o⟩
  replace O := O.callp [] o
  clear o
  simp only [put, List.append_nil] at O
  have HS := Lib.hid (And.intro hS1 (And.intro hS2 (And.intro hS3 (And.intro hS4 hS5))))
  clear hS1 hS2 hS3 hS4 hS5
  simp only [SesH.val]
  simp only [sesL] at O
  have cs := O.facts
  try simp only [factsP, cellsP, roomP, foots_cons, foots_nil, foots_append, foot_pt, ptb, ptb_mapA, foot_mapA, factsP_mapA, foot_bun, List.append_nil, List.nil_append, List.cons_append, List.nodup_cons, List.nodup_nil, List.mem_cons, List.not_mem_nil, List.mem_singleton, List.forall_mem_cons, not_or, not_false_eq_true, and_true, true_and, or_false, false_or, forall_eq_or_imp, forall_eq, implies_true, Nat.zero_add, Nat.reduceAdd, and_assoc, upd_listA, upd_mapA, upd_bun, upd_fam, upd_datasA, ptb_datasA, factsP_datasA, ptb_listA, factsP_listA, factsP_mapA, ptb_mapA, Nat.mul_one, factsP_bun, ptb_bun, ptb_fam, factsP_fam, factsP_errA, ptb_errA, upd_errA, itCells] at cs
  go_wp2_with fail
  refine (law_alive20 _).mono ?_
  rintro e w2 ⟨rfl, o⟩
  replace O := O.callp [] o
  clear o
  simp only [put, List.nil_append] at O
  have cs := O.facts
  try simp only [factsP, cellsP, roomP, foots_cons, foots_nil, foots_append, foot_pt, ptb, ptb_mapA, foot_mapA, factsP_mapA, foot_bun, List.append_nil, List.nil_append, List.cons_append, List.nodup_cons, List.nodup_nil, List.mem_cons, List.not_mem_nil, List.mem_singleton, List.forall_mem_cons, not_or, not_false_eq_true, and_true, true_and, or_false, false_or, forall_eq_or_imp, forall_eq, implies_true, Nat.zero_add, Nat.reduceAdd, and_assoc, upd_listA, upd_mapA, upd_bun, upd_fam, upd_datasA, ptb_datasA, factsP_datasA, ptb_listA, factsP_listA, factsP_mapA, ptb_mapA, Nat.mul_one, factsP_bun, ptb_bun, ptb_fam, factsP_fam, factsP_errA, ptb_errA, upd_errA, itCells] at cs
  go_wp2_with fail
  clear cs
  go_loopw [7] (fun s7 wr => ∃ (k : Nat) (ls : List LogM), k ≤ l1.length ∧ k ≤ 100 ∧ s7 = .int .i64 k ∧ Mem w [] wr (sesL S false ls) ∧ Hid (PsOk (ls.map LogM.p))) (fun s7 _ => 100 - (intOf s7).toNat)
  case atStart => exact ⟨0, [], by omega, by omega, rfl, O, Lib.hid PsOk.nil⟩
  case round =>
    clear O
    obtain ⟨k, ls, hk, hk1, rfl, O, HP⟩ := hrel
    by_cases hlt : k < l1.length ∧ k < 100
    · obtain ⟨hlt1, hlt2⟩ := hlt
      have hi1 : (k : Int) < l1.length := by omega
      have hi2 : (k : Int) < 100 := by omega
      obtain ⟨o, ho⟩ : ∃ o, l1[k]? = some o := ⟨_, List.getElem?_eq_getElem hlt1⟩
      have hok := HK1.out o (List.mem_of_getElem? ho)
      obtain ⟨b, off, rfl, hb, hq⟩ := HC1.out k _ ho
      have HQ := Lib.hid (And.intro hb hq)
      have HOK := Lib.hid hok
      clear ho hok hb hq
      obtain ⟨kd, ⟨xb, xv, xw, xB, xd, xe, xi⟩, A, c, data, key, tk, val⟩ := o
      simp only [OpR.cells] at HQ
      simp only [sesL] at O
      skip
      have cs := O.facts
      try simp only [factsP, cellsP, roomP, foots_cons, foots_nil, foots_append, foot_pt, ptb, ptb_mapA, foot_mapA, factsP_mapA, foot_bun, List.append_nil, List.nil_append, List.cons_append, List.nodup_cons, List.nodup_nil, List.mem_cons, List.not_mem_nil, List.mem_singleton, List.forall_mem_cons, not_or, not_false_eq_true, and_true, true_and, or_false, false_or, forall_eq_or_imp, forall_eq, implies_true, Nat.zero_add, Nat.reduceAdd, and_assoc, upd_listA, upd_mapA, upd_bun, upd_fam, upd_datasA, ptb_datasA, factsP_datasA, ptb_listA, factsP_listA, factsP_mapA, ptb_mapA, Nat.mul_one, factsP_bun, ptb_bun, ptb_fam, factsP_fam, factsP_errA, ptb_errA, upd_errA, itCells] at cs
      try have v1 := (arg_view HQ.out.1 HQ.out.2 O.fr)
      try simp only [cellsQ, roomP, and_assoc, and_true, true_and, Nat.add_zero, Nat.zero_add, Nat.reduceAdd, factsP, cellsP, roomP, foots_cons, foots_nil, foots_append, foot_pt, ptb, ptb_mapA, foot_mapA, factsP_mapA, foot_bun, List.append_nil, List.nil_append, List.cons_append, List.nodup_cons, List.nodup_nil, List.mem_cons, List.not_mem_nil, List.mem_singleton, List.forall_mem_cons, not_or, not_false_eq_true, and_true, true_and, or_false, false_or, forall_eq_or_imp, forall_eq, implies_true, Nat.zero_add, Nat.reduceAdd, and_assoc, upd_listA, upd_mapA, upd_bun, upd_fam, upd_datasA, ptb_datasA, factsP_datasA, ptb_listA, factsP_listA, factsP_mapA, ptb_mapA, Nat.mul_one, factsP_bun, ptb_bun, ptb_fam, factsP_fam, factsP_errA, ptb_errA, upd_errA, itCells] at v1
      go_upto_region 8 with fail
      first | apply Mem.atCall | apply Mem.atCode | apply Mem.atList
      case h => repeat' (first | (with_reducible exact O) | (with_reducible apply Mem.drew) | (with_reducible apply Mem.drewN) | (with_reducible apply Mem.ext) | (with_reducible apply Mem.alloc) | (with_reducible apply Mem.setCell) | (simp only [ptb, ptb_upd, foots_cons, List.mem_cons, World.size_alloc, size_ext, World.size_setCell, true_or, or_true, eq_self_iff_true, ptb_datasA, ptb_listA, ptb_mapA, ptb_bun, ptb_fam, ptb_errA]))
      case' k =>
        intro w3 O'
        (try clear O)
        have O := O'
        clear O'
        (first | simp only [sel, rst, List.cons_append, List.nil_append, World.size_alloc, size_ext, World.size_setCell, size_setMap, World.size_drew, size_drewN, upd, List.set_cons_zero, List.set_cons_succ, if_true, if_false, reduceIte, not_false_eq_true, ne_lt0, ne_lt1, ne_lt2, ne_lt3, ne_lt4, upd_listA, upd_mapA, upd_bun, upd_fam, upd_datasA, upd_errA, cs] at O | simp only [sel, rst, List.cons_append, List.nil_append, World.size_alloc, size_ext, World.size_setCell, size_setMap, World.size_drew, size_drewN, upd, List.set_cons_zero, List.set_cons_succ, if_true, if_false, reduceIte, not_false_eq_true, ne_lt0, ne_lt1, ne_lt2, ne_lt3, ne_lt4, upd_listA, upd_mapA, upd_bun, upd_fam, upd_datasA, upd_errA] at O | skip)
        (try clear cs)
        (try clear v1)
        (try clear v2)
        (try clear v3)
      generalize wr.heap.size = ob at O ⊢
      skip
      by_cases h1 : kd = 1
      · subst h1
        have CL := Lib.hid (fun W hW hx => s_Learn W S false ls (ItS.r ⟨xb, xv, xw, xB, xd, xe, xi⟩) A c data HOK.out.wf hW hx)
        simp only [ItemR.val, ItS.r, SesH.val] at CL
        have cs := O.facts
        try simp only [factsP, cellsP, roomP, foots_cons, foots_nil, foots_append, foot_pt, ptb, ptb_mapA, foot_mapA, factsP_mapA, foot_bun, List.append_nil, List.nil_append, List.cons_append, List.nodup_cons, List.nodup_nil, List.mem_cons, List.not_mem_nil, List.mem_singleton, List.forall_mem_cons, not_or, not_false_eq_true, and_true, true_and, or_false, false_or, forall_eq_or_imp, forall_eq, implies_true, Nat.zero_add, Nat.reduceAdd, and_assoc, upd_listA, upd_mapA, upd_bun, upd_fam, upd_datasA, ptb_datasA, factsP_datasA, ptb_listA, factsP_listA, factsP_mapA, ptb_mapA, Nat.mul_one, factsP_bun, ptb_bun, ptb_fam, factsP_fam, factsP_errA, ptb_errA, upd_errA, itCells] at cs
        go_wp2_with fail
        refine (CL.out _ (O.pre [false, true, true, true]) (fun W' f => ⟨HOK.out.x.fr (fr_down O (fun b hb => List.mem_append_right _ hb) f), HOK.out.data.fr (fr_down O (fun b hb => List.mem_append_right _ hb) f)⟩)).mono ?_
        rintro e w4 ⟨q, ls2, rfl, hq, hp, o⟩
        have O2 := (O.call [false, true, true, true] o).sel [true, true, true]
        clear O o CL
        simp only [sesL, Tk.sel, List.cons_append, List.nil_append] at O2
        have O := O2
        clear O2
        have HP2 : Hid (PsOk (ls2.map LogM.p)) := Lib.hid (by rw [hp]; exact HP.out.learn _ _ _)
        clear hp hq
        have cs := O.facts
        try simp only [factsP, cellsP, roomP, foots_cons, foots_nil, foots_append, foot_pt, ptb, ptb_mapA, foot_mapA, factsP_mapA, foot_bun, List.append_nil, List.nil_append, List.cons_append, List.nodup_cons, List.nodup_nil, List.mem_cons, List.not_mem_nil, List.mem_singleton, List.forall_mem_cons, not_or, not_false_eq_true, and_true, true_and, or_false, false_or, forall_eq_or_imp, forall_eq, implies_true, Nat.zero_add, Nat.reduceAdd, and_assoc, upd_listA, upd_mapA, upd_bun, upd_fam, upd_datasA, ptb_datasA, factsP_datasA, ptb_listA, factsP_listA, factsP_mapA, ptb_mapA, Nat.mul_one, factsP_bun, ptb_bun, ptb_fam, factsP_fam, factsP_errA, ptb_errA, upd_errA, itCells] at cs
        go_wp2_with fail
        go_roundw
        case rel => exact ⟨k + 1, ls2, by omega, by omega, by go_num, O, HP2⟩
        case measure => simp [intOf]; omega
      · have h1' : (kd == 1) = false := by simpa using h1
        clear h1
        by_cases h3 : kd = 3
        · subst h3
          have CP := Lib.hid (fun W hW => s_Put W S false ls key val HOK.out.key HOK.out.val HP.out.logs hW)
          simp only [SesH.val] at CP
          have cs := O.facts
          try simp only [factsP, cellsP, roomP, foots_cons, foots_nil, foots_append, foot_pt, ptb, ptb_mapA, foot_mapA, factsP_mapA, foot_bun, List.append_nil, List.nil_append, List.cons_append, List.nodup_cons, List.nodup_nil, List.mem_cons, List.not_mem_nil, List.mem_singleton, List.forall_mem_cons, not_or, not_false_eq_true, and_true, true_and, or_false, false_or, forall_eq_or_imp, forall_eq, implies_true, Nat.zero_add, Nat.reduceAdd, and_assoc, upd_listA, upd_mapA, upd_bun, upd_fam, upd_datasA, ptb_datasA, factsP_datasA, ptb_listA, factsP_listA, factsP_mapA, ptb_mapA, Nat.mul_one, factsP_bun, ptb_bun, ptb_fam, factsP_fam, factsP_errA, ptb_errA, upd_errA, itCells] at cs
          go_wp2_with fail
          refine (CP.out _ (O.pre [false, true, true, true])).mono ?_
          rintro e w4 ⟨q, ls2, rfl, hq, hp, o⟩
          have O2 := (O.call [false, true, true, true] o).sel [true, true, true]
          clear O o CP
          simp only [sesL, Tk.sel, List.cons_append, List.nil_append] at O2
          have O := O2
          clear O2
          have HP2 : Hid (PsOk (ls2.map LogM.p)) := Lib.hid (by rw [hp]; exact HP.out.put _ _ _)
          clear hp hq
          have cs := O.facts
          try simp only [factsP, cellsP, roomP, foots_cons, foots_nil, foots_append, foot_pt, ptb, ptb_mapA, foot_mapA, factsP_mapA, foot_bun, List.append_nil, List.nil_append, List.cons_append, List.nodup_cons, List.nodup_nil, List.mem_cons, List.not_mem_nil, List.mem_singleton, List.forall_mem_cons, not_or, not_false_eq_true, and_true, true_and, or_false, false_or, forall_eq_or_imp, forall_eq, implies_true, Nat.zero_add, Nat.reduceAdd, and_assoc, upd_listA, upd_mapA, upd_bun, upd_fam, upd_datasA, ptb_datasA, factsP_datasA, ptb_listA, factsP_listA, factsP_mapA, ptb_mapA, Nat.mul_one, factsP_bun, ptb_bun, ptb_fam, factsP_fam, factsP_errA, ptb_errA, upd_errA, itCells] at cs
          go_wp2_with fail
          go_roundw
          case rel => exact ⟨k + 1, ls2, by omega, by omega, by go_num, O, HP2⟩
          case measure => simp [intOf]; omega
        · have h3' : (kd == 3) = false := by simpa using h3
          clear h3
          have cs := O.facts
          try simp only [factsP, cellsP, roomP, foots_cons, foots_nil, foots_append, foot_pt, ptb, ptb_mapA, foot_mapA, factsP_mapA, foot_bun, List.append_nil, List.nil_append, List.cons_append, List.nodup_cons, List.nodup_nil, List.mem_cons, List.not_mem_nil, List.mem_singleton, List.forall_mem_cons, not_or, not_false_eq_true, and_true, true_and, or_false, false_or, forall_eq_or_imp, forall_eq, implies_true, Nat.zero_add, Nat.reduceAdd, and_assoc, upd_listA, upd_mapA, upd_bun, upd_fam, upd_datasA, ptb_datasA, factsP_datasA, ptb_listA, factsP_listA, factsP_mapA, ptb_mapA, Nat.mul_one, factsP_bun, ptb_bun, ptb_fam, factsP_fam, factsP_errA, ptb_errA, upd_errA, itCells] at cs
          go_wp2_with fail
          go_roundw
          case rel => exact ⟨k + 1, ls, by omega, by omega, by go_num, O.sel [false, true, true, true], HP⟩
          case measure => simp [intOf]; omega
    · simp only [sesL] at O
      skip
      have cs := O.facts
      try simp only [factsP, cellsP, roomP, foots_cons, foots_nil, foots_append, foot_pt, ptb, ptb_mapA, foot_mapA, factsP_mapA, foot_bun, List.append_nil, List.nil_append, List.cons_append, List.nodup_cons, List.nodup_nil, List.mem_cons, List.not_mem_nil, List.mem_singleton, List.forall_mem_cons, not_or, not_false_eq_true, and_true, true_and, or_false, false_or, forall_eq_or_imp, forall_eq, implies_true, Nat.zero_add, Nat.reduceAdd, and_assoc, upd_listA, upd_mapA, upd_bun, upd_fam, upd_datasA, ptb_datasA, factsP_datasA, ptb_listA, factsP_listA, factsP_mapA, ptb_mapA, Nat.mul_one, factsP_bun, ptb_bun, ptb_fam, factsP_fam, factsP_errA, ptb_errA, upd_errA, itCells] at cs
      go_upto_region 5 with fail
      go_cut [48] (fun s48 wc => s48 = .bool false ∧ Mem w [] wc [.pt S.sb [.int .u64 S.id, .int .i64 S.client, .int .i64 S.m0, .int .i64 S.m1, .int .i64 S.m2, .map (some S.lb), .bool false] 77, mapA intK ptrV S.lb (ls.map lgPtr), fam logA ls])
      case first =>
        by_cases c1 : k < l1.length
        · have c1i : (k : Int) < l1.length := by omega
          have c2i : ¬ (k : Int) < 100 := by omega
          clear hlt
          have cs := O.facts
          try simp only [factsP, cellsP, roomP, foots_cons, foots_nil, foots_append, foot_pt, ptb, ptb_mapA, foot_mapA, factsP_mapA, foot_bun, List.append_nil, List.nil_append, List.cons_append, List.nodup_cons, List.nodup_nil, List.mem_cons, List.not_mem_nil, List.mem_singleton, List.forall_mem_cons, not_or, not_false_eq_true, and_true, true_and, or_false, false_or, forall_eq_or_imp, forall_eq, implies_true, Nat.zero_add, Nat.reduceAdd, and_assoc, upd_listA, upd_mapA, upd_bun, upd_fam, upd_datasA, ptb_datasA, factsP_datasA, ptb_listA, factsP_listA, factsP_mapA, ptb_mapA, Nat.mul_one, factsP_bun, ptb_bun, ptb_fam, factsP_fam, factsP_errA, ptb_errA, upd_errA, itCells] at cs
          go_wp2_with fail
          go_meet
          exact ⟨rfl, O⟩
        · have c1i : ¬ (k : Int) < l1.length := by omega
          clear hlt
          have cs := O.facts
          try simp only [factsP, cellsP, roomP, foots_cons, foots_nil, foots_append, foot_pt, ptb, ptb_mapA, foot_mapA, factsP_mapA, foot_bun, List.append_nil, List.nil_append, List.cons_append, List.nodup_cons, List.nodup_nil, List.mem_cons, List.not_mem_nil, List.mem_singleton, List.forall_mem_cons, not_or, not_false_eq_true, and_true, true_and, or_false, false_or, forall_eq_or_imp, forall_eq, implies_true, Nat.zero_add, Nat.reduceAdd, and_assoc, upd_listA, upd_mapA, upd_bun, upd_fam, upd_datasA, ptb_datasA, factsP_datasA, ptb_listA, factsP_listA, factsP_mapA, ptb_mapA, Nat.mul_one, factsP_bun, ptb_bun, ptb_fam, factsP_fam, factsP_errA, ptb_errA, upd_errA, itCells] at cs
          go_wp2_with fail
          go_meet
          exact ⟨rfl, O⟩
      case rest =>
        clear O hlt
        obtain ⟨rfl, O⟩ := hcut
        cases ls with
        | nil =>
          have CC := Lib.hid (fun W hW => s_Commit_no W S false [] (by simp [codeCommit]) hW)
          have CT := Lib.hid (fun W fb hW => told_yes W (some fb) 201 nCommit (ErrIs.fault (by decide)) hW)
          simp only [SesH.val, nCommit, zeroTx] at CC
          simp only [nCommit] at CT
          have cs := O.facts
          try simp only [factsP, cellsP, roomP, foots_cons, foots_nil, foots_append, foot_pt, ptb, ptb_mapA, foot_mapA, factsP_mapA, foot_bun, List.append_nil, List.nil_append, List.cons_append, List.nodup_cons, List.nodup_nil, List.mem_cons, List.not_mem_nil, List.mem_singleton, List.forall_mem_cons, not_or, not_false_eq_true, and_true, true_and, or_false, false_or, forall_eq_or_imp, forall_eq, implies_true, Nat.zero_add, Nat.reduceAdd, and_assoc, upd_listA, upd_mapA, upd_bun, upd_fam, upd_datasA, ptb_datasA, factsP_datasA, ptb_listA, factsP_listA, factsP_mapA, ptb_mapA, Nat.mul_one, factsP_bun, ptb_bun, ptb_fam, factsP_fam, factsP_errA, ptb_errA, upd_errA, itCells] at cs
          go_wp2_with fail
          refine (CC.out _ (O.pre [true, true, true])).mono ?_
          rintro e w4 ⟨fb, rfl, o⟩
          replace O := O.callp [] o
          clear o CC
          simp only [put, List.cons_append, List.nil_append, errV] at O ⊢
          have cs := O.facts
          try simp only [factsP, cellsP, roomP, foots_cons, foots_nil, foots_append, foot_pt, ptb, ptb_mapA, foot_mapA, factsP_mapA, foot_bun, List.append_nil, List.nil_append, List.cons_append, List.nodup_cons, List.nodup_nil, List.mem_cons, List.not_mem_nil, List.mem_singleton, List.forall_mem_cons, not_or, not_false_eq_true, and_true, true_and, or_false, false_or, forall_eq_or_imp, forall_eq, implies_true, Nat.zero_add, Nat.reduceAdd, and_assoc, upd_listA, upd_mapA, upd_bun, upd_fam, upd_datasA, ptb_datasA, factsP_datasA, ptb_listA, factsP_listA, factsP_mapA, ptb_mapA, Nat.mul_one, factsP_bun, ptb_bun, ptb_fam, factsP_fam, factsP_errA, ptb_errA, upd_errA, itCells] at cs
          go_upto_region 14 with fail
          first | apply Mem.atCall | apply Mem.atCode | apply Mem.atList
          case h => repeat' (first | (with_reducible exact O) | (with_reducible apply Mem.drew) | (with_reducible apply Mem.drewN) | (with_reducible apply Mem.ext) | (with_reducible apply Mem.alloc) | (with_reducible apply Mem.setCell) | (simp only [ptb, ptb_upd, foots_cons, List.mem_cons, World.size_alloc, size_ext, World.size_setCell, true_or, or_true, eq_self_iff_true, ptb_datasA, ptb_listA, ptb_mapA, ptb_bun, ptb_fam, ptb_errA]))
          case' k =>
            intro w5 O'
            (try clear O)
            have O := O'
            clear O'
            (first | simp only [sel, rst, List.cons_append, List.nil_append, World.size_alloc, size_ext, World.size_setCell, size_setMap, World.size_drew, size_drewN, upd, List.set_cons_zero, List.set_cons_succ, if_true, if_false, reduceIte, not_false_eq_true, ne_lt0, ne_lt1, ne_lt2, ne_lt3, ne_lt4, upd_listA, upd_mapA, upd_bun, upd_fam, upd_datasA, upd_errA, cs] at O | simp only [sel, rst, List.cons_append, List.nil_append, World.size_alloc, size_ext, World.size_setCell, size_setMap, World.size_drew, size_drewN, upd, List.set_cons_zero, List.set_cons_succ, if_true, if_false, reduceIte, not_false_eq_true, ne_lt0, ne_lt1, ne_lt2, ne_lt3, ne_lt4, upd_listA, upd_mapA, upd_bun, upd_fam, upd_datasA, upd_errA] at O | skip)
            (try clear cs)
            (try clear v1)
            (try clear v2)
            (try clear v3)
          have cs := O.facts
          try simp only [factsP, cellsP, roomP, foots_cons, foots_nil, foots_append, foot_pt, ptb, ptb_mapA, foot_mapA, factsP_mapA, foot_bun, List.append_nil, List.nil_append, List.cons_append, List.nodup_cons, List.nodup_nil, List.mem_cons, List.not_mem_nil, List.mem_singleton, List.forall_mem_cons, not_or, not_false_eq_true, and_true, true_and, or_false, false_or, forall_eq_or_imp, forall_eq, implies_true, Nat.zero_add, Nat.reduceAdd, and_assoc, upd_listA, upd_mapA, upd_bun, upd_fam, upd_datasA, ptb_datasA, factsP_datasA, ptb_listA, factsP_listA, factsP_mapA, ptb_mapA, Nat.mul_one, factsP_bun, ptb_bun, ptb_fam, factsP_fam, factsP_errA, ptb_errA, upd_errA, itCells] at cs
          go_wp2_with fail
          refine (CT.out _ fb (O.pre [false, true])).mono ?_
          rintro e w6 ⟨rfl, o⟩
          replace O := O.callp [] o
          clear o
          simp only [put, List.nil_append] at O
          have cs := O.facts
          try simp only [factsP, cellsP, roomP, foots_cons, foots_nil, foots_append, foot_pt, ptb, ptb_mapA, foot_mapA, factsP_mapA, foot_bun, List.append_nil, List.nil_append, List.cons_append, List.nodup_cons, List.nodup_nil, List.mem_cons, List.not_mem_nil, List.mem_singleton, List.forall_mem_cons, not_or, not_false_eq_true, and_true, true_and, or_false, false_or, forall_eq_or_imp, forall_eq, implies_true, Nat.zero_add, Nat.reduceAdd, and_assoc, upd_listA, upd_mapA, upd_bun, upd_fam, upd_datasA, ptb_datasA, factsP_datasA, ptb_listA, factsP_listA, factsP_mapA, ptb_mapA, Nat.mul_one, factsP_bun, ptb_bun, ptb_fam, factsP_fam, factsP_errA, ptb_errA, upd_errA, itCells] at cs
          go_wp2_with fail
          go_ret
          exact ⟨rfl, O.fr.below rfl⟩
        | cons E0 ls0 =>
          have hls : E0 :: ls0 ≠ [] := by simp
          generalize E0 :: ls0 = ls at *
          have CC := Lib.hid (fun W hW => s_Commit W S ls hls (by have := HP.out.len; simpa using Nat.le_trans this (by omega)) HP.out.fits HP.out.bks hW)
          simp only [SesH.val] at CC
          clear hls
          have cs := O.facts
          try simp only [factsP, cellsP, roomP, foots_cons, foots_nil, foots_append, foot_pt, ptb, ptb_mapA, foot_mapA, factsP_mapA, foot_bun, List.append_nil, List.nil_append, List.cons_append, List.nodup_cons, List.nodup_nil, List.mem_cons, List.not_mem_nil, List.mem_singleton, List.forall_mem_cons, not_or, not_false_eq_true, and_true, true_and, or_false, false_or, forall_eq_or_imp, forall_eq, implies_true, Nat.zero_add, Nat.reduceAdd, and_assoc, upd_listA, upd_mapA, upd_bun, upd_fam, upd_datasA, ptb_datasA, factsP_datasA, ptb_listA, factsP_listA, factsP_mapA, ptb_mapA, Nat.mul_one, factsP_bun, ptb_bun, ptb_fam, factsP_fam, factsP_errA, ptb_errA, upd_errA, itCells] at cs
          go_wp2_with fail
          refine (CC.out _ (O.pre [true, true, true])).mono ?_
          rintro e w4 ⟨A, c, s, rfl, hs, o⟩
          have O2 := O.callp [true, true, true] o
          clear O o CC
          simp only [sesL, put, List.cons_append, List.nil_append, errV] at O2 ⊢
          have O := O2
          clear O2
          obtain ⟨n, hn⟩ : ∃ n, s.length = n := ⟨_, rfl⟩
          have hn64 : n ≤ 1000 := by
            have h1 := congrArg List.length hs
            rw [List.length_map] at h1
            have h2 := HP.out.len
            rw [List.length_map] at h2
            simp only [commitP, keysP, List.length_map, List.length_mergeSort] at h1
            omega
          have HN := Lib.hid hn
          clear hn hs
          rw [HN.out]
          have CW := Lib.hid (fun W (h1 : (itemsA A c s).holds W) (h2 : (datasA s).holds W) => q_Own W S.id S.client S.m0 S.m1 S.m2 A c n s HN.out (listA_atl itLen h1) h2 hn64)
          simp only [txV] at CW
          have cs := O.facts
          try simp only [factsP, cellsP, roomP, foots_cons, foots_nil, foots_append, foot_pt, ptb, ptb_mapA, foot_mapA, factsP_mapA, foot_bun, List.append_nil, List.nil_append, List.cons_append, List.nodup_cons, List.nodup_nil, List.mem_cons, List.not_mem_nil, List.mem_singleton, List.forall_mem_cons, not_or, not_false_eq_true, and_true, true_and, or_false, false_or, forall_eq_or_imp, forall_eq, implies_true, Nat.zero_add, Nat.reduceAdd, and_assoc, upd_listA, upd_mapA, upd_bun, upd_fam, upd_datasA, ptb_datasA, factsP_datasA, ptb_listA, factsP_listA, factsP_mapA, ptb_mapA, Nat.mul_one, factsP_bun, ptb_bun, ptb_fam, factsP_fam, factsP_errA, ptb_errA, upd_errA, itCells] at cs
          go_upto_region 16 with fail
          first | apply Mem.atCall | apply Mem.atCode | apply Mem.atList
          case h => repeat' (first | (with_reducible exact O) | (with_reducible apply Mem.drew) | (with_reducible apply Mem.drewN) | (with_reducible apply Mem.ext) | (with_reducible apply Mem.alloc) | (with_reducible apply Mem.setCell) | (simp only [ptb, ptb_upd, foots_cons, List.mem_cons, World.size_alloc, size_ext, World.size_setCell, true_or, or_true, eq_self_iff_true, ptb_datasA, ptb_listA, ptb_mapA, ptb_bun, ptb_fam, ptb_errA]))
          case' k =>
            intro w5 O'
            (try clear O)
            have O := O'
            clear O'
            (first | simp only [sel, rst, List.cons_append, List.nil_append, World.size_alloc, size_ext, World.size_setCell, size_setMap, World.size_drew, size_drewN, upd, List.set_cons_zero, List.set_cons_succ, if_true, if_false, reduceIte, not_false_eq_true, ne_lt0, ne_lt1, ne_lt2, ne_lt3, ne_lt4, upd_listA, upd_mapA, upd_bun, upd_fam, upd_datasA, upd_errA, cs] at O | simp only [sel, rst, List.cons_append, List.nil_append, World.size_alloc, size_ext, World.size_setCell, size_setMap, World.size_drew, size_drewN, upd, List.set_cons_zero, List.set_cons_succ, if_true, if_false, reduceIte, not_false_eq_true, ne_lt0, ne_lt1, ne_lt2, ne_lt3, ne_lt4, upd_listA, upd_mapA, upd_bun, upd_fam, upd_datasA, upd_errA] at O | skip)
            (try clear cs)
            (try clear v1)
            (try clear v2)
            (try clear v3)
          generalize w4.heap.size = t9 at O ⊢
          have cs := O.facts
          try simp only [factsP, cellsP, roomP, foots_cons, foots_nil, foots_append, foot_pt, ptb, ptb_mapA, foot_mapA, factsP_mapA, foot_bun, List.append_nil, List.nil_append, List.cons_append, List.nodup_cons, List.nodup_nil, List.mem_cons, List.not_mem_nil, List.mem_singleton, List.forall_mem_cons, not_or, not_false_eq_true, and_true, true_and, or_false, false_or, forall_eq_or_imp, forall_eq, implies_true, Nat.zero_add, Nat.reduceAdd, and_assoc, upd_listA, upd_mapA, upd_bun, upd_fam, upd_datasA, ptb_datasA, factsP_datasA, ptb_listA, factsP_listA, factsP_mapA, ptb_mapA, Nat.mul_one, factsP_bun, ptb_bun, ptb_fam, factsP_fam, factsP_errA, ptb_errA, upd_errA, itCells] at cs
          go_wp2_with fail
          refine (CW.out _ (O.hold _ (by simp)) (O.hold _ (by simp))).mono ?_
          rintro e w6 ⟨A', c', s', rfl, hcore, o⟩
          replace O := O.callp [false, false, false, false, false, false] o
          clear o CW
          simp only [put, List.cons_append, List.nil_append] at O
          have HCORE := Lib.hid hcore
          clear hcore
          have cs := O.facts
          try simp only [factsP, cellsP, roomP, foots_cons, foots_nil, foots_append, foot_pt, ptb, ptb_mapA, foot_mapA, factsP_mapA, foot_bun, List.append_nil, List.nil_append, List.cons_append, List.nodup_cons, List.nodup_nil, List.mem_cons, List.not_mem_nil, List.mem_singleton, List.forall_mem_cons, not_or, not_false_eq_true, and_true, true_and, or_false, false_or, forall_eq_or_imp, forall_eq, implies_true, Nat.zero_add, Nat.reduceAdd, and_assoc, upd_listA, upd_mapA, upd_bun, upd_fam, upd_datasA, ptb_datasA, factsP_datasA, ptb_listA, factsP_listA, factsP_mapA, ptb_mapA, Nat.mul_one, factsP_bun, ptb_bun, ptb_fam, factsP_fam, factsP_errA, ptb_errA, upd_errA, itCells] at cs
          go_upto_region 17 with fail
          first | apply Mem.atCall | apply Mem.atCode | apply Mem.atList
          case h => repeat' (first | (with_reducible exact O) | (with_reducible apply Mem.drew) | (with_reducible apply Mem.drewN) | (with_reducible apply Mem.ext) | (with_reducible apply Mem.alloc) | (with_reducible apply Mem.setCell) | (simp only [ptb, ptb_upd, foots_cons, List.mem_cons, World.size_alloc, size_ext, World.size_setCell, true_or, or_true, eq_self_iff_true, ptb_datasA, ptb_listA, ptb_mapA, ptb_bun, ptb_fam, ptb_errA]))
          case' k =>
            intro w7 O'
            (try clear O)
            have O := O'
            clear O'
            (first | simp only [sel, rst, List.cons_append, List.nil_append, World.size_alloc, size_ext, World.size_setCell, size_setMap, World.size_drew, size_drewN, upd, List.set_cons_zero, List.set_cons_succ, if_true, if_false, reduceIte, not_false_eq_true, ne_lt0, ne_lt1, ne_lt2, ne_lt3, ne_lt4, upd_listA, upd_mapA, upd_bun, upd_fam, upd_datasA, upd_errA, cs] at O | simp only [sel, rst, List.cons_append, List.nil_append, World.size_alloc, size_ext, World.size_setCell, size_setMap, World.size_drew, size_drewN, upd, List.set_cons_zero, List.set_cons_succ, if_true, if_false, reduceIte, not_false_eq_true, ne_lt0, ne_lt1, ne_lt2, ne_lt3, ne_lt4, upd_listA, upd_mapA, upd_bun, upd_fam, upd_datasA, upd_errA] at O | skip)
            (try clear cs)
            (try clear v1)
            (try clear v2)
            (try clear v3)
          generalize w6.heap.size = t11 at O ⊢
          replace O := (((((((((O).front [false, false, false, false, true]).front [false, false, false, false, true]).front [false, false, false, false, true]).front [false, false, false, true]).front [false, false, false, false, true]).front [false, false, false, false, false, false, false, false, true]).front [false, false, false, false, false, false, false, false, true]).front [false, false, false, false, false, false, false, false, true]).front [false, false, false, false, false, false, false, false, true]
          simp only [Tk.sel, rst, List.cons_append, List.nil_append] at O
          replace O := O.sel [true, true, true, true, true, true, true, true, true]
          simp only [Tk.sel] at O
          replace O := Mem.shut (l := [itemsA A c s, datasA s, itemsA A' c' s', datasA s']) O
          replace O := ((((((O).front [true]).front [false, false, true]).front [false, false, true]).front [false, false, false, false, false, true]).front [false, false, false, false, false, true]).front [false, false, false, false, false, true]
          simp only [Tk.sel, rst, List.cons_append, List.nil_append] at O
          replace O := O.sel [true, true, true, true, true, true]
          simp only [Tk.sel] at O
          have cs := O.facts
          try simp only [factsP, cellsP, roomP, foots_cons, foots_nil, foots_append, foot_pt, ptb, ptb_mapA, foot_mapA, factsP_mapA, foot_bun, List.append_nil, List.nil_append, List.cons_append, List.nodup_cons, List.nodup_nil, List.mem_cons, List.not_mem_nil, List.mem_singleton, List.forall_mem_cons, not_or, not_false_eq_true, and_true, true_and, or_false, false_or, forall_eq_or_imp, forall_eq, implies_true, Nat.zero_add, Nat.reduceAdd, and_assoc, upd_listA, upd_mapA, upd_bun, upd_fam, upd_datasA, ptb_datasA, factsP_datasA, ptb_listA, factsP_listA, factsP_mapA, ptb_mapA, Nat.mul_one, factsP_bun, ptb_bun, ptb_fam, factsP_fam, factsP_errA, ptb_errA, upd_errA, itCells] at cs
          go_wp2_with fail
          clear cs
          go_loopw [12] (fun s12 wr => ∃ (k : Nat) (ls : List LogM), k ≤ l2.length ∧ k ≤ 50 ∧ s12 = .int .i64 k ∧ Mem w [] wr [.pt S.sb [.int .u64 S.id, .int .i64 S.client, .int .i64 S.m0, .int .i64 S.m1, .int .i64 S.m2, .map (some S.lb), .bool true] 77, mapA intK ptrV S.lb (ls.map lgPtr), fam logA ls, .pt t9 [.int .u64 S.id, .int .i64 S.client, .int .i64 S.m0, .int .i64 S.m1, .int .i64 S.m2, .slice A n c] 45, .pt t11 [.int .u64 S.id, .int .i64 S.client, .int .i64 S.m0, .int .i64 S.m1, .int .i64 S.m2, .slice A' n c'] 45, bun [itemsA A c s, datasA s, itemsA A' c' s', datasA s']] ∧ Hid (PsOk (ls.map LogM.p))) (fun s12 _ => 50 - (intOf s12).toNat)
          case atStart => exact ⟨0, ls, by omega, by omega, rfl, O, HP⟩
          case round =>
            clear O HP ls
            obtain ⟨k, ls, hk, hk1, rfl, O, HP⟩ := hrel
            by_cases hlt : k < l2.length ∧ k < 50
            · obtain ⟨hlt1, hlt2⟩ := hlt
              have hi1 : (k : Int) < l2.length := by omega
              have hi2 : (k : Int) < 50 := by omega
              obtain ⟨o, ho⟩ : ∃ o, l2[k]? = some o := ⟨_, List.getElem?_eq_getElem hlt1⟩
              have hok := HK2.out o (List.mem_of_getElem? ho)
              obtain ⟨b, off, rfl, hb, hq⟩ := HC2.out k _ ho
              have HQ := Lib.hid (And.intro hb hq)
              have HOK := Lib.hid hok
              clear ho hok hb hq
              obtain ⟨kd, ⟨xb, xv, xw, xB, xd, xe, xi⟩, A0, c0, data, key, tk, val⟩ := o
              simp only [OpR.cells] at HQ
              skip
              have cs := O.facts
              try simp only [factsP, cellsP, roomP, foots_cons, foots_nil, foots_append, foot_pt, ptb, ptb_mapA, foot_mapA, factsP_mapA, foot_bun, List.append_nil, List.nil_append, List.cons_append, List.nodup_cons, List.nodup_nil, List.mem_cons, List.not_mem_nil, List.mem_singleton, List.forall_mem_cons, not_or, not_false_eq_true, and_true, true_and, or_false, false_or, forall_eq_or_imp, forall_eq, implies_true, Nat.zero_add, Nat.reduceAdd, and_assoc, upd_listA, upd_mapA, upd_bun, upd_fam, upd_datasA, ptb_datasA, factsP_datasA, ptb_listA, factsP_listA, factsP_mapA, ptb_mapA, Nat.mul_one, factsP_bun, ptb_bun, ptb_fam, factsP_fam, factsP_errA, ptb_errA, upd_errA, itCells] at cs
              try have v1 := (arg_view HQ.out.1 HQ.out.2 O.fr)
              try simp only [cellsQ, roomP, and_assoc, and_true, true_and, Nat.add_zero, Nat.zero_add, Nat.reduceAdd, factsP, cellsP, roomP, foots_cons, foots_nil, foots_append, foot_pt, ptb, ptb_mapA, foot_mapA, factsP_mapA, foot_bun, List.append_nil, List.nil_append, List.cons_append, List.nodup_cons, List.nodup_nil, List.mem_cons, List.not_mem_nil, List.mem_singleton, List.forall_mem_cons, not_or, not_false_eq_true, and_true, true_and, or_false, false_or, forall_eq_or_imp, forall_eq, implies_true, Nat.zero_add, Nat.reduceAdd, and_assoc, upd_listA, upd_mapA, upd_bun, upd_fam, upd_datasA, ptb_datasA, factsP_datasA, ptb_listA, factsP_listA, factsP_mapA, ptb_mapA, Nat.mul_one, factsP_bun, ptb_bun, ptb_fam, factsP_fam, factsP_errA, ptb_errA, upd_errA, itCells] at v1
              go_upto_region 21 with fail
              first | apply Mem.atCall | apply Mem.atCode | apply Mem.atList
              case h => repeat' (first | (with_reducible exact O) | (with_reducible apply Mem.drew) | (with_reducible apply Mem.drewN) | (with_reducible apply Mem.ext) | (with_reducible apply Mem.alloc) | (with_reducible apply Mem.setCell) | (simp only [ptb, ptb_upd, foots_cons, List.mem_cons, World.size_alloc, size_ext, World.size_setCell, true_or, or_true, eq_self_iff_true, ptb_datasA, ptb_listA, ptb_mapA, ptb_bun, ptb_fam, ptb_errA]))
              case' k =>
                intro w8 O'
                (try clear O)
                have O := O'
                clear O'
                (first | simp only [sel, rst, List.cons_append, List.nil_append, World.size_alloc, size_ext, World.size_setCell, size_setMap, World.size_drew, size_drewN, upd, List.set_cons_zero, List.set_cons_succ, if_true, if_false, reduceIte, not_false_eq_true, ne_lt0, ne_lt1, ne_lt2, ne_lt3, ne_lt4, upd_listA, upd_mapA, upd_bun, upd_fam, upd_datasA, upd_errA, cs] at O | simp only [sel, rst, List.cons_append, List.nil_append, World.size_alloc, size_ext, World.size_setCell, size_setMap, World.size_drew, size_drewN, upd, List.set_cons_zero, List.set_cons_succ, if_true, if_false, reduceIte, not_false_eq_true, ne_lt0, ne_lt1, ne_lt2, ne_lt3, ne_lt4, upd_listA, upd_mapA, upd_bun, upd_fam, upd_datasA, upd_errA] at O | skip)
                (try clear cs)
                (try clear v1)
                (try clear v2)
                (try clear v3)
              generalize wr.heap.size = ob at O ⊢
              skip
              replace O := (((((((O).front [false, false, false, false, false, false, true]).front [false, false, false, false, false, false, true]).front [false, false, false, false, false, false, true]).front [false, false, false, true]).front [false, false, false, false, false, false, true]).front [false, false, false, false, false, false, true]).front [false, false, false, false, false, false, true]
              simp only [Tk.sel, rst, List.cons_append, List.nil_append] at O
              replace O := O.sel [true, true, true, true, true, true, true]
              simp only [Tk.sel] at O
              have CT := Lib.hid (fun W q of (hq : ErrIs q 201) hW => told_yes W q 201 of hq hW)
              have K1 := Lib.hid (fun W hW => s_Get W S true ls key HOK.out.key HP.out.logs hW)
              simp only [SesH.val, gotP_done, codeP_done, nGet] at K1
              have cs := O.facts
              try simp only [factsP, cellsP, roomP, foots_cons, foots_nil, foots_append, foot_pt, ptb, ptb_mapA, foot_mapA, factsP_mapA, foot_bun, List.append_nil, List.nil_append, List.cons_append, List.nodup_cons, List.nodup_nil, List.mem_cons, List.not_mem_nil, List.mem_singleton, List.forall_mem_cons, not_or, not_false_eq_true, and_true, true_and, or_false, false_or, forall_eq_or_imp, forall_eq, implies_true, Nat.zero_add, Nat.reduceAdd, and_assoc, upd_listA, upd_mapA, upd_bun, upd_fam, upd_datasA, ptb_datasA, factsP_datasA, ptb_listA, factsP_listA, factsP_mapA, ptb_mapA, Nat.mul_one, factsP_bun, ptb_bun, ptb_fam, factsP_fam, factsP_errA, ptb_errA, upd_errA, itCells] at cs
              go_wp2_with fail
              refine (K1.out _ (O.pre [true, true, true])).mono ?_
              rintro e w9 ⟨q1, rfl, hq1, o⟩
              replace O := O.callp [false, false, false, false, false, false, false] o
              clear o K1
              simp only [put, List.cons_append, List.nil_append] at O
              have K2 := Lib.hid (fun W hW => s_Delete W S true ls key HOK.out.key HP.out.logs hW)
              simp only [SesH.val, delS_done, codeP_done, nDelete] at K2
              have cs := O.facts
              try simp only [factsP, cellsP, roomP, foots_cons, foots_nil, foots_append, foot_pt, ptb, ptb_mapA, foot_mapA, factsP_mapA, foot_bun, List.append_nil, List.nil_append, List.cons_append, List.nodup_cons, List.nodup_nil, List.mem_cons, List.not_mem_nil, List.mem_singleton, List.forall_mem_cons, not_or, not_false_eq_true, and_true, true_and, or_false, false_or, forall_eq_or_imp, forall_eq, implies_true, Nat.zero_add, Nat.reduceAdd, and_assoc, upd_listA, upd_mapA, upd_bun, upd_fam, upd_datasA, ptb_datasA, factsP_datasA, ptb_listA, factsP_listA, factsP_mapA, ptb_mapA, Nat.mul_one, factsP_bun, ptb_bun, ptb_fam, factsP_fam, factsP_errA, ptb_errA, upd_errA, itCells] at cs
              go_wp2_with fail
              refine (K2.out _ (O.pre [true, true, true])).mono ?_
              rintro e w10 ⟨q2, ls2, rfl, hq2, hp2, o⟩
              replace O := O.callp [true, true, true, false, false, false, false, false] o
              clear o K2
              simp only [sesL, put, List.cons_append, List.nil_append] at O
              have HP2 : Hid (PsOk (ls2.map LogM.p)) := Lib.hid (by rw [hp2]; exact HP.out)
              clear hp2
              have K3 := Lib.hid (fun W hW => s_Scan W S true ls2 key tk HOK.out.key HOK.out.tk HP2.out.logs hW)
              simp only [SesH.val, scanS_done, codeScan_done, nScan, List.length_nil] at K3
              have cs := O.facts
              try simp only [factsP, cellsP, roomP, foots_cons, foots_nil, foots_append, foot_pt, ptb, ptb_mapA, foot_mapA, factsP_mapA, foot_bun, List.append_nil, List.nil_append, List.cons_append, List.nodup_cons, List.nodup_nil, List.mem_cons, List.not_mem_nil, List.mem_singleton, List.forall_mem_cons, not_or, not_false_eq_true, and_true, true_and, or_false, false_or, forall_eq_or_imp, forall_eq, implies_true, Nat.zero_add, Nat.reduceAdd, and_assoc, upd_listA, upd_mapA, upd_bun, upd_fam, upd_datasA, ptb_datasA, factsP_datasA, ptb_listA, factsP_listA, factsP_mapA, ptb_mapA, Nat.mul_one, factsP_bun, ptb_bun, ptb_fam, factsP_fam, factsP_errA, ptb_errA, upd_errA, itCells] at cs
              go_wp2_with fail
              refine (K3.out _ (O.pre [true, true, true])).mono ?_
              rintro e w11 ⟨q3, A3, c3, rfl, hq3, o⟩
              replace O := O.callp [false, false, false, false, false, false, false, false, false] o
              clear o K3
              simp only [put, List.cons_append, List.nil_append] at O
              replace O := O.sel [true, true, true, true, true, true, true, true, true, false, true]
              simp only [Tk.sel] at O
              have K4 := Lib.hid (fun W hW => s_Commit_no W S true ls2 (by simp [codeCommit]) hW)
              simp only [SesH.val, nCommit, zeroTx] at K4
              have cs := O.facts
              try simp only [factsP, cellsP, roomP, foots_cons, foots_nil, foots_append, foot_pt, ptb, ptb_mapA, foot_mapA, factsP_mapA, foot_bun, List.append_nil, List.nil_append, List.cons_append, List.nodup_cons, List.nodup_nil, List.mem_cons, List.not_mem_nil, List.mem_singleton, List.forall_mem_cons, not_or, not_false_eq_true, and_true, true_and, or_false, false_or, forall_eq_or_imp, forall_eq, implies_true, Nat.zero_add, Nat.reduceAdd, and_assoc, upd_listA, upd_mapA, upd_bun, upd_fam, upd_datasA, ptb_datasA, factsP_datasA, ptb_listA, factsP_listA, factsP_mapA, ptb_mapA, Nat.mul_one, factsP_bun, ptb_bun, ptb_fam, factsP_fam, factsP_errA, ptb_errA, upd_errA, itCells] at cs
              go_wp2_with fail
              refine (K4.out _ (O.pre [true, true, true])).mono ?_
              rintro e w12 ⟨fb4, rfl, o⟩
              replace O := O.callp [false, false, false, false, false, false, false, false, false, false] o
              clear o K4
              simp only [put, List.cons_append, List.nil_append] at O
              have cs := O.facts
              try simp only [factsP, cellsP, roomP, foots_cons, foots_nil, foots_append, foot_pt, ptb, ptb_mapA, foot_mapA, factsP_mapA, foot_bun, List.append_nil, List.nil_append, List.cons_append, List.nodup_cons, List.nodup_nil, List.mem_cons, List.not_mem_nil, List.mem_singleton, List.forall_mem_cons, not_or, not_false_eq_true, and_true, true_and, or_false, false_or, forall_eq_or_imp, forall_eq, implies_true, Nat.zero_add, Nat.reduceAdd, and_assoc, upd_listA, upd_mapA, upd_bun, upd_fam, upd_datasA, ptb_datasA, factsP_datasA, ptb_listA, factsP_listA, factsP_mapA, ptb_mapA, Nat.mul_one, factsP_bun, ptb_bun, ptb_fam, factsP_fam, factsP_errA, ptb_errA, upd_errA, itCells] at cs
              go_upto_region 25 with fail
              first | apply Mem.atCall | apply Mem.atCode | apply Mem.atList
              case h => repeat' (first | (with_reducible exact O) | (with_reducible apply Mem.drew) | (with_reducible apply Mem.drewN) | (with_reducible apply Mem.ext) | (with_reducible apply Mem.alloc) | (with_reducible apply Mem.setCell) | (simp only [ptb, ptb_upd, foots_cons, List.mem_cons, World.size_alloc, size_ext, World.size_setCell, true_or, or_true, eq_self_iff_true, ptb_datasA, ptb_listA, ptb_mapA, ptb_bun, ptb_fam, ptb_errA]))
              case' k =>
                intro w13 O'
                (try clear O)
                have O := O'
                clear O'
                (first | simp only [sel, rst, List.cons_append, List.nil_append, World.size_alloc, size_ext, World.size_setCell, size_setMap, World.size_drew, size_drewN, upd, List.set_cons_zero, List.set_cons_succ, if_true, if_false, reduceIte, not_false_eq_true, ne_lt0, ne_lt1, ne_lt2, ne_lt3, ne_lt4, upd_listA, upd_mapA, upd_bun, upd_fam, upd_datasA, upd_errA, cs] at O | simp only [sel, rst, List.cons_append, List.nil_append, World.size_alloc, size_ext, World.size_setCell, size_setMap, World.size_drew, size_drewN, upd, List.set_cons_zero, List.set_cons_succ, if_true, if_false, reduceIte, not_false_eq_true, ne_lt0, ne_lt1, ne_lt2, ne_lt3, ne_lt4, upd_listA, upd_mapA, upd_bun, upd_fam, upd_datasA, upd_errA] at O | skip)
                (try clear cs)
                (try clear v1)
                (try clear v2)
                (try clear v3)
              replace O := O.sel [false, true, true, true, true, true, true, true, true, true, true, true]
              simp only [Tk.sel] at O
              have K5 := Lib.hid (fun W hW => s_Put W S true ls2 key val HOK.out.key HOK.out.val HP2.out.logs hW)
              simp only [SesH.val, putS_done, nPut] at K5
              have cs := O.facts
              try simp only [factsP, cellsP, roomP, foots_cons, foots_nil, foots_append, foot_pt, ptb, ptb_mapA, foot_mapA, factsP_mapA, foot_bun, List.append_nil, List.nil_append, List.cons_append, List.nodup_cons, List.nodup_nil, List.mem_cons, List.not_mem_nil, List.mem_singleton, List.forall_mem_cons, not_or, not_false_eq_true, and_true, true_and, or_false, false_or, forall_eq_or_imp, forall_eq, implies_true, Nat.zero_add, Nat.reduceAdd, and_assoc, upd_listA, upd_mapA, upd_bun, upd_fam, upd_datasA, ptb_datasA, factsP_datasA, ptb_listA, factsP_listA, factsP_mapA, ptb_mapA, Nat.mul_one, factsP_bun, ptb_bun, ptb_fam, factsP_fam, factsP_errA, ptb_errA, upd_errA, itCells] at cs
              go_wp2_with fail
              refine (K5.out _ (O.pre [true, true, true])).mono ?_
              rintro e w14 ⟨q5, ls5, rfl, hq5, hp5, o⟩
              replace O := O.callp [true, true, true, false, false, false, false, false, false, false, false] o
              clear o K5
              simp only [sesL, put, List.cons_append, List.nil_append] at O
              have HP5 : Hid (PsOk (ls5.map LogM.p)) := Lib.hid (by rw [hp5]; exact HP2.out)
              clear hp5
              have cs := O.facts
              try simp only [factsP, cellsP, roomP, foots_cons, foots_nil, foots_append, foot_pt, ptb, ptb_mapA, foot_mapA, factsP_mapA, foot_bun, List.append_nil, List.nil_append, List.cons_append, List.nodup_cons, List.nodup_nil, List.mem_cons, List.not_mem_nil, List.mem_singleton, List.forall_mem_cons, not_or, not_false_eq_true, and_true, true_and, or_false, false_or, forall_eq_or_imp, forall_eq, implies_true, Nat.zero_add, Nat.reduceAdd, and_assoc, upd_listA, upd_mapA, upd_bun, upd_fam, upd_datasA, ptb_datasA, factsP_datasA, ptb_listA, factsP_listA, factsP_mapA, ptb_mapA, Nat.mul_one, factsP_bun, ptb_bun, ptb_fam, factsP_fam, factsP_errA, ptb_errA, upd_errA, itCells] at cs
              go_wp2_with fail
              refine (CT.out _ q5 _ hq5 (O.pre [false, false, false, false, false, false, false, false, false, false, false, true])).mono ?_
              rintro e w15 ⟨rfl, o⟩
              replace O := O.callp [] o
              clear o
              simp only [put, List.nil_append] at O
              replace O := O.sel [true, true, true, true, true, true, true, true, true, true, true]
              simp only [Tk.sel] at O
              have K6 := Lib.hid (fun W hW hx => s_Learn W S true ls5 (ItS.r ⟨xb, xv, xw, xB, xd, xe, xi⟩) A0 c0 data HOK.out.wf hW hx)
              simp only [SesH.val, learnS_done, nLearn, ItemR.val, ItS.r] at K6
              have cs := O.facts
              try simp only [factsP, cellsP, roomP, foots_cons, foots_nil, foots_append, foot_pt, ptb, ptb_mapA, foot_mapA, factsP_mapA, foot_bun, List.append_nil, List.nil_append, List.cons_append, List.nodup_cons, List.nodup_nil, List.mem_cons, List.not_mem_nil, List.mem_singleton, List.forall_mem_cons, not_or, not_false_eq_true, and_true, true_and, or_false, false_or, forall_eq_or_imp, forall_eq, implies_true, Nat.zero_add, Nat.reduceAdd, and_assoc, upd_listA, upd_mapA, upd_bun, upd_fam, upd_datasA, ptb_datasA, factsP_datasA, ptb_listA, factsP_listA, factsP_mapA, ptb_mapA, Nat.mul_one, factsP_bun, ptb_bun, ptb_fam, factsP_fam, factsP_errA, ptb_errA, upd_errA, itCells] at cs
              go_wp2_with fail
              refine (K6.out _ (O.pre [true, true, true]) (fun W' f => ⟨HOK.out.x.fr (fr_down O (fun b hb => by simp only [sesL, foots_cons, foots_nil, List.append_nil] at hb ⊢; simp only [List.mem_append] at hb ⊢; rcases hb with hb | hb | hb <;> simp [hb]) f), HOK.out.data.fr (fr_down O (fun b hb => by simp only [sesL, foots_cons, foots_nil, List.append_nil] at hb ⊢; simp only [List.mem_append] at hb ⊢; rcases hb with hb | hb | hb <;> simp [hb]) f)⟩)).mono ?_
              rintro e w16 ⟨q6, ls6, rfl, hq6, hp6, o⟩
              replace O := O.callp [true, true, true, false, false, false, false, false, false, false, false] o
              clear o K6
              simp only [sesL, put, List.cons_append, List.nil_append] at O
              have HP6 : Hid (PsOk (ls6.map LogM.p)) := Lib.hid (by rw [hp6]; exact HP5.out)
              clear hp6
              have cs := O.facts
              try simp only [factsP, cellsP, roomP, foots_cons, foots_nil, foots_append, foot_pt, ptb, ptb_mapA, foot_mapA, factsP_mapA, foot_bun, List.append_nil, List.nil_append, List.cons_append, List.nodup_cons, List.nodup_nil, List.mem_cons, List.not_mem_nil, List.mem_singleton, List.forall_mem_cons, not_or, not_false_eq_true, and_true, true_and, or_false, false_or, forall_eq_or_imp, forall_eq, implies_true, Nat.zero_add, Nat.reduceAdd, and_assoc, upd_listA, upd_mapA, upd_bun, upd_fam, upd_datasA, ptb_datasA, factsP_datasA, ptb_listA, factsP_listA, factsP_mapA, ptb_mapA, Nat.mul_one, factsP_bun, ptb_bun, ptb_fam, factsP_fam, factsP_errA, ptb_errA, upd_errA, itCells] at cs
              go_wp2_with fail
              refine (CT.out _ q6 _ hq6 (O.pre [false, false, false, false, false, false, false, false, false, false, false, true])).mono ?_
              rintro e w17 ⟨rfl, o⟩
              replace O := O.callp [] o
              clear o
              simp only [put, List.nil_append] at O
              replace O := O.sel [true, true, true, true, true, true, true, true, true, true, true]
              simp only [Tk.sel] at O
              have cs := O.facts
              try simp only [factsP, cellsP, roomP, foots_cons, foots_nil, foots_append, foot_pt, ptb, ptb_mapA, foot_mapA, factsP_mapA, foot_bun, List.append_nil, List.nil_append, List.cons_append, List.nodup_cons, List.nodup_nil, List.mem_cons, List.not_mem_nil, List.mem_singleton, List.forall_mem_cons, not_or, not_false_eq_true, and_true, true_and, or_false, false_or, forall_eq_or_imp, forall_eq, implies_true, Nat.zero_add, Nat.reduceAdd, and_assoc, upd_listA, upd_mapA, upd_bun, upd_fam, upd_datasA, ptb_datasA, factsP_datasA, ptb_listA, factsP_listA, factsP_mapA, ptb_mapA, Nat.mul_one, factsP_bun, ptb_bun, ptb_fam, factsP_fam, factsP_errA, ptb_errA, upd_errA, itCells] at cs
              go_wp2_with fail
              refine (CT.out _ q1 _ hq1 (O.pre [false, false, false, false, false, false, false, true])).mono ?_
              rintro e w18 ⟨rfl, o⟩
              replace O := O.callp [] o
              clear o
              simp only [put, List.nil_append] at O
              have cs := O.facts
              try simp only [factsP, cellsP, roomP, foots_cons, foots_nil, foots_append, foot_pt, ptb, ptb_mapA, foot_mapA, factsP_mapA, foot_bun, List.append_nil, List.nil_append, List.cons_append, List.nodup_cons, List.nodup_nil, List.mem_cons, List.not_mem_nil, List.mem_singleton, List.forall_mem_cons, not_or, not_false_eq_true, and_true, true_and, or_false, false_or, forall_eq_or_imp, forall_eq, implies_true, Nat.zero_add, Nat.reduceAdd, and_assoc, upd_listA, upd_mapA, upd_bun, upd_fam, upd_datasA, ptb_datasA, factsP_datasA, ptb_listA, factsP_listA, factsP_mapA, ptb_mapA, Nat.mul_one, factsP_bun, ptb_bun, ptb_fam, factsP_fam, factsP_errA, ptb_errA, upd_errA, itCells] at cs
              go_wp2_with fail
              refine (CT.out _ q2 _ hq2 (O.pre [false, false, false, false, false, false, false, false, true])).mono ?_
              rintro e w19 ⟨rfl, o⟩
              replace O := O.callp [] o
              clear o
              simp only [put, List.nil_append] at O
              have cs := O.facts
              try simp only [factsP, cellsP, roomP, foots_cons, foots_nil, foots_append, foot_pt, ptb, ptb_mapA, foot_mapA, factsP_mapA, foot_bun, List.append_nil, List.nil_append, List.cons_append, List.nodup_cons, List.nodup_nil, List.mem_cons, List.not_mem_nil, List.mem_singleton, List.forall_mem_cons, not_or, not_false_eq_true, and_true, true_and, or_false, false_or, forall_eq_or_imp, forall_eq, implies_true, Nat.zero_add, Nat.reduceAdd, and_assoc, upd_listA, upd_mapA, upd_bun, upd_fam, upd_datasA, ptb_datasA, factsP_datasA, ptb_listA, factsP_listA, factsP_mapA, ptb_mapA, Nat.mul_one, factsP_bun, ptb_bun, ptb_fam, factsP_fam, factsP_errA, ptb_errA, upd_errA, itCells] at cs
              go_wp2_with fail
              refine (CT.out _ q3 _ hq3 (O.pre [false, false, false, false, false, false, false, false, false, true])).mono ?_
              rintro e w20 ⟨rfl, o⟩
              replace O := O.callp [] o
              clear o
              simp only [put, List.nil_append] at O
              have cs := O.facts
              try simp only [factsP, cellsP, roomP, foots_cons, foots_nil, foots_append, foot_pt, ptb, ptb_mapA, foot_mapA, factsP_mapA, foot_bun, List.append_nil, List.nil_append, List.cons_append, List.nodup_cons, List.nodup_nil, List.mem_cons, List.not_mem_nil, List.mem_singleton, List.forall_mem_cons, not_or, not_false_eq_true, and_true, true_and, or_false, false_or, forall_eq_or_imp, forall_eq, implies_true, Nat.zero_add, Nat.reduceAdd, and_assoc, upd_listA, upd_mapA, upd_bun, upd_fam, upd_datasA, ptb_datasA, factsP_datasA, ptb_listA, factsP_listA, factsP_mapA, ptb_mapA, Nat.mul_one, factsP_bun, ptb_bun, ptb_fam, factsP_fam, factsP_errA, ptb_errA, upd_errA, itCells] at cs
              go_wp2_with fail
              refine (CT.out _ (some fb4) _ (ErrIs.fault (by decide)) (O.pre [false, false, false, false, false, false, false, false, false, false, true])).mono ?_
              rintro e w21 ⟨rfl, o⟩
              replace O := O.callp [] o
              clear o
              simp only [put, List.nil_append] at O
              replace O := O.sel [true, true, true, false, true, true, true]
              simp only [Tk.sel] at O
              have cs := O.facts
              try simp only [factsP, cellsP, roomP, foots_cons, foots_nil, foots_append, foot_pt, ptb, ptb_mapA, foot_mapA, factsP_mapA, foot_bun, List.append_nil, List.nil_append, List.cons_append, List.nodup_cons, List.nodup_nil, List.mem_cons, List.not_mem_nil, List.mem_singleton, List.forall_mem_cons, not_or, not_false_eq_true, and_true, true_and, or_false, false_or, forall_eq_or_imp, forall_eq, implies_true, Nat.zero_add, Nat.reduceAdd, and_assoc, upd_listA, upd_mapA, upd_bun, upd_fam, upd_datasA, ptb_datasA, factsP_datasA, ptb_listA, factsP_listA, factsP_mapA, ptb_mapA, Nat.mul_one, factsP_bun, ptb_bun, ptb_fam, factsP_fam, factsP_errA, ptb_errA, upd_errA, itCells] at cs
              go_wp2_with fail
              go_roundw
              case rel => exact ⟨k + 1, ls6, by omega, by omega, by go_num, O, HP6⟩
              case measure => simp [intOf]; omega
            · skip
              have cs := O.facts
              try simp only [factsP, cellsP, roomP, foots_cons, foots_nil, foots_append, foot_pt, ptb, ptb_mapA, foot_mapA, factsP_mapA, foot_bun, List.append_nil, List.nil_append, List.cons_append, List.nodup_cons, List.nodup_nil, List.mem_cons, List.not_mem_nil, List.mem_singleton, List.forall_mem_cons, not_or, not_false_eq_true, and_true, true_and, or_false, false_or, forall_eq_or_imp, forall_eq, implies_true, Nat.zero_add, Nat.reduceAdd, and_assoc, upd_listA, upd_mapA, upd_bun, upd_fam, upd_datasA, ptb_datasA, factsP_datasA, ptb_listA, factsP_listA, factsP_mapA, ptb_mapA, Nat.mul_one, factsP_bun, ptb_bun, ptb_fam, factsP_fam, factsP_errA, ptb_errA, upd_errA, itCells] at cs
              go_upto_region 18 with fail
              go_cut [91] (fun s91 wc => s91 = .bool false ∧ Mem w [] wc [.pt S.sb [.int .u64 S.id, .int .i64 S.client, .int .i64 S.m0, .int .i64 S.m1, .int .i64 S.m2, .map (some S.lb), .bool true] 77, mapA intK ptrV S.lb (ls.map lgPtr), fam logA ls, .pt t9 [.int .u64 S.id, .int .i64 S.client, .int .i64 S.m0, .int .i64 S.m1, .int .i64 S.m2, .slice A n c] 45, .pt t11 [.int .u64 S.id, .int .i64 S.client, .int .i64 S.m0, .int .i64 S.m1, .int .i64 S.m2, .slice A' n c'] 45, bun [itemsA A c s, datasA s, itemsA A' c' s', datasA s']])
              case first =>
                by_cases c1 : k < l2.length
                · have c1i : (k : Int) < l2.length := by omega
                  have c2i : ¬ (k : Int) < 50 := by omega
                  clear hlt
                  have cs := O.facts
                  try simp only [factsP, cellsP, roomP, foots_cons, foots_nil, foots_append, foot_pt, ptb, ptb_mapA, foot_mapA, factsP_mapA, foot_bun, List.append_nil, List.nil_append, List.cons_append, List.nodup_cons, List.nodup_nil, List.mem_cons, List.not_mem_nil, List.mem_singleton, List.forall_mem_cons, not_or, not_false_eq_true, and_true, true_and, or_false, false_or, forall_eq_or_imp, forall_eq, implies_true, Nat.zero_add, Nat.reduceAdd, and_assoc, upd_listA, upd_mapA, upd_bun, upd_fam, upd_datasA, ptb_datasA, factsP_datasA, ptb_listA, factsP_listA, factsP_mapA, ptb_mapA, Nat.mul_one, factsP_bun, ptb_bun, ptb_fam, factsP_fam, factsP_errA, ptb_errA, upd_errA, itCells] at cs
                  go_wp2_with fail
                  go_meet
                  exact ⟨rfl, O⟩
                · have c1i : ¬ (k : Int) < l2.length := by omega
                  clear hlt
                  have cs := O.facts
                  try simp only [factsP, cellsP, roomP, foots_cons, foots_nil, foots_append, foot_pt, ptb, ptb_mapA, foot_mapA, factsP_mapA, foot_bun, List.append_nil, List.nil_append, List.cons_append, List.nodup_cons, List.nodup_nil, List.mem_cons, List.not_mem_nil, List.mem_singleton, List.forall_mem_cons, not_or, not_false_eq_true, and_true, true_and, or_false, false_or, forall_eq_or_imp, forall_eq, implies_true, Nat.zero_add, Nat.reduceAdd, and_assoc, upd_listA, upd_mapA, upd_bun, upd_fam, upd_datasA, ptb_datasA, factsP_datasA, ptb_listA, factsP_listA, factsP_mapA, ptb_mapA, Nat.mul_one, factsP_bun, ptb_bun, ptb_fam, factsP_fam, factsP_errA, ptb_errA, upd_errA, itCells] at cs
                  go_wp2_with fail
                  go_meet
                  exact ⟨rfl, O⟩
              case rest =>
                clear O hlt
                obtain ⟨rfl, O⟩ := hcut
                have hlen' : s'.length = n := by have := congrArg List.length HCORE.out; simpa [HN.out] using this
                have CS := Lib.hid (fun W (h1 : (itemsA A c s).holds W) (h2 : (datasA s).holds W) (h3 : (itemsA A' c' s').holds W) (h4 : (datasA s').holds W) => q_Same W S.id S.client S.m0 S.m1 S.m2 A A' c c' s s' HCORE.out.symm (listA_atl itLen h1) (listA_atl itLen h3) h2 h4 (by rw [HN.out]; omega))
                simp only [txV, HN.out, hlen'] at CS
                have CSt := Lib.hid (fun W hW => s_State W S true ls hW)
                simp only [SesH.val, if_true] at CSt
                have OB := Lib.hid (fun W (L : List Asn) (hW : Mem w [] W L) (hm : bun [itemsA A c s, datasA s, itemsA A' c' s', datasA s'] ∈ L) => hW.hold _ hm)
                have cs := O.facts
                try simp only [factsP, cellsP, roomP, foots_cons, foots_nil, foots_append, foot_pt, ptb, ptb_mapA, foot_mapA, factsP_mapA, foot_bun, List.append_nil, List.nil_append, List.cons_append, List.nodup_cons, List.nodup_nil, List.mem_cons, List.not_mem_nil, List.mem_singleton, List.forall_mem_cons, not_or, not_false_eq_true, and_true, true_and, or_false, false_or, forall_eq_or_imp, forall_eq, implies_true, Nat.zero_add, Nat.reduceAdd, and_assoc, upd_listA, upd_mapA, upd_bun, upd_fam, upd_datasA, ptb_datasA, factsP_datasA, ptb_listA, factsP_listA, factsP_mapA, ptb_mapA, Nat.mul_one, factsP_bun, ptb_bun, ptb_fam, factsP_fam, factsP_errA, ptb_errA, upd_errA, itCells] at cs
                go_wp2_with fail
                first | apply Mem.atCall | apply Mem.atCode | apply Mem.atList
                case h => repeat' (first | (with_reducible exact O) | (with_reducible apply Mem.drew) | (with_reducible apply Mem.drewN) | (with_reducible apply Mem.ext) | (with_reducible apply Mem.alloc) | (with_reducible apply Mem.setCell) | (simp only [ptb, ptb_upd, foots_cons, List.mem_cons, World.size_alloc, size_ext, World.size_setCell, true_or, or_true, eq_self_iff_true, ptb_datasA, ptb_listA, ptb_mapA, ptb_bun, ptb_fam, ptb_errA]))
                case' k =>
                  intro w8 O'
                  (try clear O)
                  have O := O'
                  clear O'
                  (first | simp only [sel, rst, List.cons_append, List.nil_append, World.size_alloc, size_ext, World.size_setCell, size_setMap, World.size_drew, size_drewN, upd, List.set_cons_zero, List.set_cons_succ, if_true, if_false, reduceIte, not_false_eq_true, ne_lt0, ne_lt1, ne_lt2, ne_lt3, ne_lt4, upd_listA, upd_mapA, upd_bun, upd_fam, upd_datasA, upd_errA, cs] at O | simp only [sel, rst, List.cons_append, List.nil_append, World.size_alloc, size_ext, World.size_setCell, size_setMap, World.size_drew, size_drewN, upd, List.set_cons_zero, List.set_cons_succ, if_true, if_false, reduceIte, not_false_eq_true, ne_lt0, ne_lt1, ne_lt2, ne_lt3, ne_lt4, upd_listA, upd_mapA, upd_bun, upd_fam, upd_datasA, upd_errA] at O | skip)
                  (try clear cs)
                  (try clear v1)
                  (try clear v2)
                  (try clear v3)
                refine (CS.out _ (OB.out _ _ O (by simp) _ (by simp)) (OB.out _ _ O (by simp) _ (by simp)) (OB.out _ _ O (by simp) _ (by simp)) (OB.out _ _ O (by simp) _ (by simp))).mono ?_
                rintro e w9 ⟨rfl, o⟩
                replace O := O.callp [] o
                clear o
                simp only [put, List.nil_append] at O
                have cs := O.facts
                try simp only [factsP, cellsP, roomP, foots_cons, foots_nil, foots_append, foot_pt, ptb, ptb_mapA, foot_mapA, factsP_mapA, foot_bun, List.append_nil, List.nil_append, List.cons_append, List.nodup_cons, List.nodup_nil, List.mem_cons, List.not_mem_nil, List.mem_singleton, List.forall_mem_cons, not_or, not_false_eq_true, and_true, true_and, or_false, false_or, forall_eq_or_imp, forall_eq, implies_true, Nat.zero_add, Nat.reduceAdd, and_assoc, upd_listA, upd_mapA, upd_bun, upd_fam, upd_datasA, ptb_datasA, factsP_datasA, ptb_listA, factsP_listA, factsP_mapA, ptb_mapA, Nat.mul_one, factsP_bun, ptb_bun, ptb_fam, factsP_fam, factsP_errA, ptb_errA, upd_errA, itCells] at cs
                go_wp2_with fail
                refine (CSt.out _ (O.pre [true, true, true])).mono ?_
                rintro e w10 ⟨rfl, o⟩
                replace O := O.callp [] o
                clear o
                simp only [put, List.nil_append] at O
                have cs := O.facts
                try simp only [factsP, cellsP, roomP, foots_cons, foots_nil, foots_append, foot_pt, ptb, ptb_mapA, foot_mapA, factsP_mapA, foot_bun, List.append_nil, List.nil_append, List.cons_append, List.nodup_cons, List.nodup_nil, List.mem_cons, List.not_mem_nil, List.mem_singleton, List.forall_mem_cons, not_or, not_false_eq_true, and_true, true_and, or_false, false_or, forall_eq_or_imp, forall_eq, implies_true, Nat.zero_add, Nat.reduceAdd, and_assoc, upd_listA, upd_mapA, upd_bun, upd_fam, upd_datasA, ptb_datasA, factsP_datasA, ptb_listA, factsP_listA, factsP_mapA, ptb_mapA, Nat.mul_one, factsP_bun, ptb_bun, ptb_fam, factsP_fam, factsP_errA, ptb_errA, upd_errA, itCells] at cs
                go_wp2_with fail
                go_ret
                exact ⟨rfl, O.fr.below rfl⟩
end Go.Proofs.Ytomcekjhehceoaa
