/- WALK: what is committed may be. -/
import Derived.Test.YtomcekjhehceoaaRightP20
import Derived.Test.YtomcekjhehceoaaNil20
set_option linter.unusedVariables false
set_option linter.unusedSimpArgs false
namespace Go.Proofs.Ytomcekjhehceoaa
open Go.RowKit Go.Tk
theorem fr_downR {w0 w W : World} {L : List Asn} {G : List Nat} (O : Mem w0 [] w L) (hs : ∀ b ∈ G, b ∈ foots L) (f : Fr G w W) : Fr [] w0 W := O.fr.trans f (fun b hb => (O.mine b (hs b hb)).imp id id)
theorem eqIncsG (a b c d a' b' c' d' : Int) (W : World) : (Op.equalIn 10000 34 (.agg #[.int .u32 a, .int .u32 b, .int .u32 c, .int .u32 d]) (.agg #[.int .u32 a', .int .u32 b', .int .u32 c', .int .u32 d'])).run Try.prog W = .ok (a == a' && b == b' && c == c' && d == d') W := by
  have u3 := Try.underlying32
  have a3 := Try.isAgg32
  have z3 := Try.sizeOf32
  rw [show (10000 : Nat) = 9999 + 1 from rfl, Op.equalIn]
  simp only [Sem.run_bind, run_underlying Try.underlying34, Result.andThen_ok]
  simp only [Std.Legacy.Range.forIn_eq_forIn_range', Std.Legacy.Range.size, Nat.sub_zero, Nat.add_sub_cancel, Nat.div_one, List.range'_succ, List.range'_zero, List.forIn_cons, List.forIn_nil]
  go_simp
  by_cases h1 : a = a' <;> by_cases h2 : b = b' <;> by_cases h3 : c = c' <;> by_cases h4 : d = d' <;> simp [h1, h2, h3, h4]
theorem q_Right18 (w : World) (t : TxR) (hi : Items w t.data t.items) : Calls Try.prog 16 #[t.val] w (fun e w' => e = .returned (.bool t.right) ∧ Mem w [] w' []) := (ref18_Right t w hi).mono fun _ _ h => h.mem
set_option maxRecDepth 100000 in
set_option maxHeartbeats 16000000 in
theorem right_walk (w : World) (V1 : Value) (l1 : List OpR) (h1 : ArgList w 13 OpR.cells V1 l1) (ok1 : ∀ o ∈ l1, o.ok w) :
    Calls Try.prog 3 #[V1] w (fun e w' => e = .returned (.bool true) ∧ Below w.heap.size w w') := by
  obtain ⟨hl1, A1, c1, rfl, hc1⟩ := h1
  have HC1 := Lib.hid hc1
  have HK1 := Lib.hid ok1
  have HL1 := Lib.hid hl1
  clear hc1 ok1 hl1
  have O : Mem w [] w [] := Mem.begin
  have EN : ∀ W, (binOp .neq 25 .nilIface .nilIface).run Try.prog W = .ok (.bool false) W := fun W => by kernel_rfl
  have EF : ∀ fb W, (binOp .neq 25 (.iface 92 (.pointer (some ⟨fb, 0, none⟩))) .nilIface).run Try.prog W = .ok (.bool true) W := fun fb W => by kernel_rfl
  have EQ : ∀ W, (binOp .eql 25 .nilIface .nilIface).run Try.prog W = .ok (.bool true) W := fun W => by kernel_rfl
  have EG : ∀ fb W, (binOp .eql 25 (.iface 92 (.pointer (some ⟨fb, 0, none⟩))) .nilIface).run Try.prog W = .ok (.bool false) W := fun fb W => by kernel_rfl
  skip
  go_enter Try.func3, Try.ntmps3
  have cs := O.facts
  try simp only [factsP, cellsP, roomP, foots_cons, foots_nil, foots_append, foot_pt, ptb, ptb_mapA, foot_mapA, factsP_mapA, foot_bun, List.append_nil, List.nil_append, List.cons_append, List.nodup_cons, List.nodup_nil, List.mem_cons, List.not_mem_nil, List.mem_singleton, List.forall_mem_cons, not_or, not_false_eq_true, and_true, true_and, or_false, false_or, forall_eq_or_imp, forall_eq, implies_true, Nat.zero_add, Nat.reduceAdd, and_assoc, upd_listA, upd_mapA, upd_bun, upd_fam, upd_datasA, ptb_datasA, factsP_datasA, ptb_listA, factsP_listA, factsP_mapA, ptb_mapA, Nat.mul_one, factsP_bun, ptb_bun, ptb_fam, factsP_fam, factsP_errA, ptb_errA, upd_errA, itCells] at cs
  go_wp2_with fail
  refine (s_New _ 5 1 1 2 3 (by decide) (by decide) (by decide) (by decide) (by decide) (by decide) (by decide) (by decide)).mono ?_
  rintro e w1 ⟨S, hS1, hS2, hS3, hS4, hS5, rfl, o⟩
  replace O := O.callp [] o
  clear o
  simp only [put, List.append_nil] at O
  obtain ⟨sb, lb, sid, scl, sm0, sm1, sm2⟩ := S
  simp only at hS1 hS2 hS3 hS4 hS5
  subst hS1 hS2 hS3 hS4 hS5
  simp only [SesH.val]
  simp only [sesL] at O
  have cs := O.facts
  try simp only [factsP, cellsP, roomP, foots_cons, foots_nil, foots_append, foot_pt, ptb, ptb_mapA, foot_mapA, factsP_mapA, foot_bun, List.append_nil, List.nil_append, List.cons_append, List.nodup_cons, List.nodup_nil, List.mem_cons, List.not_mem_nil, List.mem_singleton, List.forall_mem_cons, not_or, not_false_eq_true, and_true, true_and, or_false, false_or, forall_eq_or_imp, forall_eq, implies_true, Nat.zero_add, Nat.reduceAdd, and_assoc, upd_listA, upd_mapA, upd_bun, upd_fam, upd_datasA, ptb_datasA, factsP_datasA, ptb_listA, factsP_listA, factsP_mapA, ptb_mapA, Nat.mul_one, factsP_bun, ptb_bun, ptb_fam, factsP_fam, factsP_errA, ptb_errA, upd_errA, itCells] at cs
  go_wp2_with fail
  refine (law_alive20 _).mono ?_
  rintro e w2 ⟨rfl, o⟩
  replace O := O.callp [] o
  clear o
  simp only [put, List.nil_append] at O
  have cs := O.facts
  try simp only [factsP, cellsP, roomP, foots_cons, foots_nil, foots_append, foot_pt, ptb, ptb_mapA, foot_mapA, factsP_mapA, foot_bun, List.append_nil, List.nil_append, List.cons_append, List.nodup_cons, List.nodup_nil, List.mem_cons, List.not_mem_nil, List.mem_singleton, List.forall_mem_cons, not_or, not_false_eq_true, and_true, true_and, or_false, false_or, forall_eq_or_imp, forall_eq, implies_true, Nat.zero_add, Nat.reduceAdd, and_assoc, upd_listA, upd_mapA, upd_bun, upd_fam, upd_datasA, ptb_datasA, factsP_datasA, ptb_listA, factsP_listA, factsP_mapA, ptb_mapA, Nat.mul_one, factsP_bun, ptb_bun, ptb_fam, factsP_fam, factsP_errA, ptb_errA, upd_errA, itCells] at cs
  go_wp2_with fail
  clear cs
  go_loopw [5, 6] (fun s5 s6 wr => ∃ (k : Nat) (ls : List LogM) (A : Option Addr) (c : Nat) (fs : List ItS), k ≤ l1.length ∧ k ≤ 300 ∧ s6 = .int .i64 k ∧ s5 = .slice A fs.length c ∧ Mem w [] wr (itemsA A c fs :: sesL ⟨sb, lb, 5, 1, 1, 2, 3⟩ false ls) ∧ Hid (PsOk (ls.map LogM.p) ∧ fs.map key3 = (ls.map LogM.p).map key3P)) (fun _ s6 _ => 300 - (intOf s6).toNat)
  case atStart => exact ⟨0, [], none, 0, [], by omega, by omega, rfl, rfl, O.listNil, Lib.hid ⟨PsOk.nil, rfl⟩⟩
  case round =>
    clear O
    obtain ⟨k, ls, A, c, fs, hk, hk1, rfl, rfl, O, HP⟩ := hrel
    by_cases hlt : k < l1.length ∧ k < 300
    · obtain ⟨hlt1, hlt2⟩ := hlt
      have hi1 : (k : Int) < l1.length := by omega
      have hi2 : (k : Int) < 300 := by omega
      obtain ⟨o, ho⟩ : ∃ o, l1[k]? = some o := ⟨_, List.getElem?_eq_getElem hlt1⟩
      have hok := HK1.out o (List.mem_of_getElem? ho)
      obtain ⟨b, off, rfl, hb, hq⟩ := HC1.out k _ ho
      have HQ := Lib.hid (And.intro hb hq)
      have HOK := Lib.hid hok
      have hfl : fs.length ≤ 8 := by
        have h1 := congrArg List.length HP.out.2
        have h2 := HP.out.1.len
        simp only [List.length_map] at h1 h2
        omega
      clear ho hok hb hq
      obtain ⟨kd, ⟨xb, xv, xw, xB, xd, xe, xi⟩, A0, c0, data, key, tk, val⟩ := o
      simp only [OpR.cells] at HQ
      simp only [sesL] at O
      skip
      have cs := O.facts
      try simp only [factsP, cellsP, roomP, foots_cons, foots_nil, foots_append, foot_pt, ptb, ptb_mapA, foot_mapA, factsP_mapA, foot_bun, List.append_nil, List.nil_append, List.cons_append, List.nodup_cons, List.nodup_nil, List.mem_cons, List.not_mem_nil, List.mem_singleton, List.forall_mem_cons, not_or, not_false_eq_true, and_true, true_and, or_false, false_or, forall_eq_or_imp, forall_eq, implies_true, Nat.zero_add, Nat.reduceAdd, and_assoc, upd_listA, upd_mapA, upd_bun, upd_fam, upd_datasA, ptb_datasA, factsP_datasA, ptb_listA, factsP_listA, factsP_mapA, ptb_mapA, Nat.mul_one, factsP_bun, ptb_bun, ptb_fam, factsP_fam, factsP_errA, ptb_errA, upd_errA, itCells] at cs
      try have v1 := (arg_view HQ.out.1 HQ.out.2 O.fr)
      try simp only [cellsQ, roomP, and_assoc, and_true, true_and, Nat.add_zero, Nat.zero_add, Nat.reduceAdd, factsP, cellsP, roomP, foots_cons, foots_nil, foots_append, foot_pt, ptb, ptb_mapA, foot_mapA, factsP_mapA, foot_bun, List.append_nil, List.nil_append, List.cons_append, List.nodup_cons, List.nodup_nil, List.mem_cons, List.not_mem_nil, List.mem_singleton, List.forall_mem_cons, not_or, not_false_eq_true, and_true, true_and, or_false, false_or, forall_eq_or_imp, forall_eq, implies_true, Nat.zero_add, Nat.reduceAdd, and_assoc, upd_listA, upd_mapA, upd_bun, upd_fam, upd_datasA, ptb_datasA, factsP_datasA, ptb_listA, factsP_listA, factsP_mapA, ptb_mapA, Nat.mul_one, factsP_bun, ptb_bun, ptb_fam, factsP_fam, factsP_errA, ptb_errA, upd_errA, itCells] at v1
      go_upto_region 9 with fail
      first | apply Mem.atCall | apply Mem.atCode | apply Mem.atList
      case h => repeat' (first | (with_reducible exact O) | (with_reducible apply Mem.drew) | (with_reducible apply Mem.drewN) | (with_reducible apply Mem.ext) | (with_reducible apply Mem.alloc) | (with_reducible apply Mem.setCell) | (simp only [ptb, ptb_upd, foots_cons, List.mem_cons, World.size_alloc, size_ext, World.size_setCell, true_or, or_true, eq_self_iff_true, ptb_datasA, ptb_listA, ptb_mapA, ptb_bun, ptb_fam, ptb_errA]))
      case' k =>
        intro w3 O'
        (try clear O)
        have O := O'
        clear O'
        (first | simp only [sel, rst, List.cons_append, List.nil_append, World.size_alloc, size_ext, World.size_setCell, size_setMap, World.size_drew, size_drewN, upd, List.set_cons_zero, List.set_cons_succ, if_true, if_false, reduceIte, not_false_eq_true, ne_lt0, ne_lt1, ne_lt2, ne_lt3, ne_lt4, upd_listA, upd_mapA, upd_bun, upd_fam, upd_datasA, upd_errA, cs] at O | simp only [sel, rst, List.cons_append, List.nil_append, World.size_alloc, size_ext, World.size_setCell, size_setMap, World.size_drew, size_drewN, upd, List.set_cons_zero, List.set_cons_succ, if_true, if_false, reduceIte, not_false_eq_true, ne_lt0, ne_lt1, ne_lt2, ne_lt3, ne_lt4, upd_listA, upd_mapA, upd_bun, upd_fam, upd_datasA, upd_errA] at O | skip)
        (try clear cs)
        (try clear v1)
        (try clear v2)
        (try clear v3)
      generalize wr.heap.size = ob at O ⊢
      skip
      by_cases h1 : kd = 1
      · subst h1
        have CH := Lib.hid (fun W hW => s_Has W ⟨sb, lb, 5, 1, 1, 2, 3⟩ false ls xb HOK.out.wf hW)
        rw [hasB_p] at CH
        have CL := Lib.hid (fun W hW hx => s_Learn W ⟨sb, lb, 5, 1, 1, 2, 3⟩ false ls (ItS.r ⟨xb, xv, xw, xB, xd, xe, xi⟩) A0 c0 data HOK.out.wf hW hx)
        have LC := Lib.hid (learn_cases (ls.map LogM.p) (ItS.r ⟨xb, xv, xw, xB, xd, xe, xi⟩) data)
        have LP := Lib.hid (HP.out.1.learn false (ItS.r ⟨xb, xv, xw, xB, xd, xe, xi⟩) data)
        generalize learnS false (ls.map LogM.p) (ItS.r ⟨xb, xv, xw, xB, xd, xe, xi⟩) data = lr at CL LC LP
        obtain ⟨cd, ps2⟩ := lr
        simp only [ItemR.val, ItS.r, SesH.val] at CL CH LC LP
        have cs := O.facts
        try simp only [factsP, cellsP, roomP, foots_cons, foots_nil, foots_append, foot_pt, ptb, ptb_mapA, foot_mapA, factsP_mapA, foot_bun, List.append_nil, List.nil_append, List.cons_append, List.nodup_cons, List.nodup_nil, List.mem_cons, List.not_mem_nil, List.mem_singleton, List.forall_mem_cons, not_or, not_false_eq_true, and_true, true_and, or_false, false_or, forall_eq_or_imp, forall_eq, implies_true, Nat.zero_add, Nat.reduceAdd, and_assoc, upd_listA, upd_mapA, upd_bun, upd_fam, upd_datasA, ptb_datasA, factsP_datasA, ptb_listA, factsP_listA, factsP_mapA, ptb_mapA, Nat.mul_one, factsP_bun, ptb_bun, ptb_fam, factsP_fam, factsP_errA, ptb_errA, upd_errA, itCells] at cs
        go_wp2_with fail
        refine (CH.out _ (O.pre [false, false, true, true, true])).mono ?_
        rintro e w4 ⟨rfl, o⟩
        replace O := O.callp [] o
        clear o CH
        simp only [put, List.nil_append] at O
        have cs := O.facts
        try simp only [factsP, cellsP, roomP, foots_cons, foots_nil, foots_append, foot_pt, ptb, ptb_mapA, foot_mapA, factsP_mapA, foot_bun, List.append_nil, List.nil_append, List.cons_append, List.nodup_cons, List.nodup_nil, List.mem_cons, List.not_mem_nil, List.mem_singleton, List.forall_mem_cons, not_or, not_false_eq_true, and_true, true_and, or_false, false_or, forall_eq_or_imp, forall_eq, implies_true, Nat.zero_add, Nat.reduceAdd, and_assoc, upd_listA, upd_mapA, upd_bun, upd_fam, upd_datasA, ptb_datasA, factsP_datasA, ptb_listA, factsP_listA, factsP_mapA, ptb_mapA, Nat.mul_one, factsP_bun, ptb_bun, ptb_fam, factsP_fam, factsP_errA, ptb_errA, upd_errA, itCells] at cs
        go_wp2_with fail
        refine (CL.out _ (O.pre [false, false, true, true, true]) (fun W' f => ⟨HOK.out.x.fr (fr_downR O (fun b hb => List.mem_append_right _ (List.mem_append_right _ hb)) f), HOK.out.data.fr (fr_downR O (fun b hb => List.mem_append_right _ (List.mem_append_right _ hb)) f)⟩)).mono ?_
        rintro e w5 ⟨q, ls2, rfl, hq, hp, o⟩
        have O2 := (O.callp [false, false, true, true, true] o).sel [true, true, true, true, true]
        clear O o CL
        simp only [sesL, put, Tk.sel, List.cons_append, List.nil_append] at O2
        have O := O2
        clear O2
        have HP2 := Lib.hid hp
        clear hp
        by_cases hnew : cd = 0 ∧ hasP (ls.map LogM.p) xb = false
        · obtain ⟨hcd, hhas⟩ := hnew
          have hps : ps2 = ls.map LogM.p ++ [⟨xb, xv, xi, data, data⟩] := by
            rcases LC.out with h | h
            · exact h.2.2
            · exact absurd ⟨hcd, hhas⟩ h.1
          obtain rfl : q = none := hq.2 hcd
          have HPS := Lib.hid hps
          rw [hhas]
          simp only [errV]
          clear hcd hhas hps hq
          have cs := O.facts
          try simp only [factsP, cellsP, roomP, foots_cons, foots_nil, foots_append, foot_pt, ptb, ptb_mapA, foot_mapA, factsP_mapA, foot_bun, List.append_nil, List.nil_append, List.cons_append, List.nodup_cons, List.nodup_nil, List.mem_cons, List.not_mem_nil, List.mem_singleton, List.forall_mem_cons, not_or, not_false_eq_true, and_true, true_and, or_false, false_or, forall_eq_or_imp, forall_eq, implies_true, Nat.zero_add, Nat.reduceAdd, and_assoc, upd_listA, upd_mapA, upd_bun, upd_fam, upd_datasA, ptb_datasA, factsP_datasA, ptb_listA, factsP_listA, factsP_mapA, ptb_mapA, Nat.mul_one, factsP_bun, ptb_bun, ptb_fam, factsP_fam, factsP_errA, ptb_errA, upd_errA, itCells] at cs
          go_upto_region 13 with fail
          have cs := O.facts
          try simp only [factsP, cellsP, roomP, foots_cons, foots_nil, foots_append, foot_pt, ptb, ptb_mapA, foot_mapA, factsP_mapA, foot_bun, List.append_nil, List.nil_append, List.cons_append, List.nodup_cons, List.nodup_nil, List.mem_cons, List.not_mem_nil, List.mem_singleton, List.forall_mem_cons, not_or, not_false_eq_true, and_true, true_and, or_false, false_or, forall_eq_or_imp, forall_eq, implies_true, Nat.zero_add, Nat.reduceAdd, and_assoc, upd_listA, upd_mapA, upd_bun, upd_fam, upd_datasA, ptb_datasA, factsP_datasA, ptb_listA, factsP_listA, factsP_mapA, ptb_mapA, Nat.mul_one, factsP_bun, ptb_bun, ptb_fam, factsP_fam, factsP_errA, ptb_errA, upd_errA, itCells] at cs
          go_wp2_with ((at_builtin; refine itTy.wl_app ((O.alloc (itCells (ItS.mk xb xv xw xB xd xe xi)) 36).front1 [false, false, true] rfl) rfl rfl (by simp) rfl [(ItS.mk xb xv xw xB xd xe xi)] rfl rfl (src_one (x := (ItS.mk xb xv xw xB xd xe xi)) (fun _ => rfl) (O.alloc (itCells (ItS.mk xb xv xw xB xd xe xi)) 36) (List.mem_cons_self ..)) (by first | (simp; done) | (simp; omega)) ?_; intro A2 c2 wc O4; have cs1 := O4.facts; simp only [rst, factsP, cellsP, roomP, foots_cons, foots_nil, foots_append, foot_pt, ptb, ptb_mapA, foot_mapA, factsP_mapA, foot_bun, List.append_nil, List.nil_append, List.cons_append, List.nodup_cons, List.nodup_nil, List.mem_cons, List.not_mem_nil, List.mem_singleton, List.forall_mem_cons, not_or, not_false_eq_true, and_true, true_and, or_false, false_or, forall_eq_or_imp, forall_eq, implies_true, Nat.zero_add, Nat.reduceAdd, and_assoc, upd_listA, upd_mapA, upd_bun, upd_fam, upd_datasA, ptb_datasA, factsP_datasA, ptb_listA, factsP_listA, factsP_mapA, ptb_mapA, Nat.mul_one, factsP_bun, ptb_bun, ptb_fam, factsP_fam, factsP_errA, ptb_errA, upd_errA, itCells] at cs1))
          clear cs O
          have cs := cs1
          clear cs1
          have O := O4.unfront
          simp only [put, List.cons_append, List.nil_append] at O
          clear O4
          go_roundw
          case rel =>
            refine ⟨k + 1, ls2, A2, c2, fs ++ [ItS.mk xb xv xw xB xd xe xi], by omega, by omega, by go_num, by simp, O.sel [false, false, true, true, true, true], Lib.hid ⟨by rw [HP2.out]; exact LP.out, ?_⟩⟩
            rw [HP2.out, HPS.out, List.map_append, List.map_append, HP.out.2]
            rfl
          case measure => simp [intOf]; omega
        · have hps : ps2 = ls.map LogM.p := by
            rcases LC.out with h | h
            · exact absurd ⟨h.1, h.2.1⟩ hnew
            · exact h.2
          have HPS := Lib.hid hps
          have hrel2 : PsOk (ls2.map LogM.p) ∧ fs.map key3 = (ls2.map LogM.p).map key3P := by
            rw [HP2.out, hps]; exact HP.out
          have HR2 := Lib.hid hrel2
          clear hrel2 hps
          cases q with
          | none =>
            have hcd := hq.1 rfl
            have hhas : hasP (ls.map LogM.p) xb = true := by
              cases hx : hasP (ls.map LogM.p) xb with
              | true => rfl
              | false => exact absurd ⟨hcd, hx⟩ hnew
            rw [hhas]
            simp only [errV]
            clear hcd hhas hnew hq
            have cs := O.facts
            try simp only [factsP, cellsP, roomP, foots_cons, foots_nil, foots_append, foot_pt, ptb, ptb_mapA, foot_mapA, factsP_mapA, foot_bun, List.append_nil, List.nil_append, List.cons_append, List.nodup_cons, List.nodup_nil, List.mem_cons, List.not_mem_nil, List.mem_singleton, List.forall_mem_cons, not_or, not_false_eq_true, and_true, true_and, or_false, false_or, forall_eq_or_imp, forall_eq, implies_true, Nat.zero_add, Nat.reduceAdd, and_assoc, upd_listA, upd_mapA, upd_bun, upd_fam, upd_datasA, ptb_datasA, factsP_datasA, ptb_listA, factsP_listA, factsP_mapA, ptb_mapA, Nat.mul_one, factsP_bun, ptb_bun, ptb_fam, factsP_fam, factsP_errA, ptb_errA, upd_errA, itCells] at cs
            go_wp2_with fail
            go_roundw
            case rel => exact ⟨k + 1, ls2, A, c, fs, by omega, by omega, by go_num, rfl, O.sel [false, true, true, true, true], HR2⟩
            case measure => simp [intOf]; omega
          | some fb =>
            simp only [errV]
            clear hnew hq
            have cs := O.facts
            try simp only [factsP, cellsP, roomP, foots_cons, foots_nil, foots_append, foot_pt, ptb, ptb_mapA, foot_mapA, factsP_mapA, foot_bun, List.append_nil, List.nil_append, List.cons_append, List.nodup_cons, List.nodup_nil, List.mem_cons, List.not_mem_nil, List.mem_singleton, List.forall_mem_cons, not_or, not_false_eq_true, and_true, true_and, or_false, false_or, forall_eq_or_imp, forall_eq, implies_true, Nat.zero_add, Nat.reduceAdd, and_assoc, upd_listA, upd_mapA, upd_bun, upd_fam, upd_datasA, ptb_datasA, factsP_datasA, ptb_listA, factsP_listA, factsP_mapA, ptb_mapA, Nat.mul_one, factsP_bun, ptb_bun, ptb_fam, factsP_fam, factsP_errA, ptb_errA, upd_errA, itCells] at cs
            go_wp2_with fail
            go_roundw
            case rel => exact ⟨k + 1, ls2, A, c, fs, by omega, by omega, by go_num, rfl, O.sel [false, true, true, true, true], HR2⟩
            case measure => simp [intOf]; omega
      · have h1' : (kd == 1) = false := by simpa using h1
        clear h1
        by_cases h3 : kd = 3
        · subst h3
          have CP := Lib.hid (fun W hW => s_Put W ⟨sb, lb, 5, 1, 1, 2, 3⟩ false ls key val HOK.out.key HOK.out.val HP.out.1.logs hW)
          simp only [SesH.val] at CP
          have cs := O.facts
          try simp only [factsP, cellsP, roomP, foots_cons, foots_nil, foots_append, foot_pt, ptb, ptb_mapA, foot_mapA, factsP_mapA, foot_bun, List.append_nil, List.nil_append, List.cons_append, List.nodup_cons, List.nodup_nil, List.mem_cons, List.not_mem_nil, List.mem_singleton, List.forall_mem_cons, not_or, not_false_eq_true, and_true, true_and, or_false, false_or, forall_eq_or_imp, forall_eq, implies_true, Nat.zero_add, Nat.reduceAdd, and_assoc, upd_listA, upd_mapA, upd_bun, upd_fam, upd_datasA, ptb_datasA, factsP_datasA, ptb_listA, factsP_listA, factsP_mapA, ptb_mapA, Nat.mul_one, factsP_bun, ptb_bun, ptb_fam, factsP_fam, factsP_errA, ptb_errA, upd_errA, itCells] at cs
          go_wp2_with fail
          refine (CP.out _ (O.pre [false, false, true, true, true])).mono ?_
          rintro e w4 ⟨q, ls2, rfl, hq, hp, o⟩
          have O2 := (O.callp [false, false, true, true, true] o).sel [false, true, true, true, true]
          clear O o CP
          simp only [sesL, put, Tk.sel, List.cons_append, List.nil_append] at O2
          have O := O2
          clear O2
          have HR2 : Hid (PsOk (ls2.map LogM.p) ∧ fs.map key3 = (ls2.map LogM.p).map key3P) := Lib.hid (by rw [hp]; exact ⟨HP.out.1.put _ _ _, by rw [put_key3]; exact HP.out.2⟩)
          clear hp hq
          have cs := O.facts
          try simp only [factsP, cellsP, roomP, foots_cons, foots_nil, foots_append, foot_pt, ptb, ptb_mapA, foot_mapA, factsP_mapA, foot_bun, List.append_nil, List.nil_append, List.cons_append, List.nodup_cons, List.nodup_nil, List.mem_cons, List.not_mem_nil, List.mem_singleton, List.forall_mem_cons, not_or, not_false_eq_true, and_true, true_and, or_false, false_or, forall_eq_or_imp, forall_eq, implies_true, Nat.zero_add, Nat.reduceAdd, and_assoc, upd_listA, upd_mapA, upd_bun, upd_fam, upd_datasA, ptb_datasA, factsP_datasA, ptb_listA, factsP_listA, factsP_mapA, ptb_mapA, Nat.mul_one, factsP_bun, ptb_bun, ptb_fam, factsP_fam, factsP_errA, ptb_errA, upd_errA, itCells] at cs
          go_wp2_with fail
          go_roundw
          case rel => exact ⟨k + 1, ls2, A, c, fs, by omega, by omega, by go_num, rfl, O, HR2⟩
          case measure => simp [intOf]; omega
        · have h3' : (kd == 3) = false := by simpa using h3
          clear h3
          by_cases h4 : kd = 4
          · subst h4
            have CP := Lib.hid (fun W hW => s_Delete W ⟨sb, lb, 5, 1, 1, 2, 3⟩ false ls key HOK.out.key HP.out.1.logs hW)
            simp only [SesH.val] at CP
            have cs := O.facts
            try simp only [factsP, cellsP, roomP, foots_cons, foots_nil, foots_append, foot_pt, ptb, ptb_mapA, foot_mapA, factsP_mapA, foot_bun, List.append_nil, List.nil_append, List.cons_append, List.nodup_cons, List.nodup_nil, List.mem_cons, List.not_mem_nil, List.mem_singleton, List.forall_mem_cons, not_or, not_false_eq_true, and_true, true_and, or_false, false_or, forall_eq_or_imp, forall_eq, implies_true, Nat.zero_add, Nat.reduceAdd, and_assoc, upd_listA, upd_mapA, upd_bun, upd_fam, upd_datasA, ptb_datasA, factsP_datasA, ptb_listA, factsP_listA, factsP_mapA, ptb_mapA, Nat.mul_one, factsP_bun, ptb_bun, ptb_fam, factsP_fam, factsP_errA, ptb_errA, upd_errA, itCells] at cs
            go_wp2_with fail
            refine (CP.out _ (O.pre [false, false, true, true, true])).mono ?_
            rintro e w4 ⟨q, ls2, rfl, hq, hp, o⟩
            have O2 := (O.callp [false, false, true, true, true] o).sel [false, true, true, true, true]
            clear O o CP
            simp only [sesL, put, Tk.sel, List.cons_append, List.nil_append] at O2
            have O := O2
            clear O2
            have HR2 : Hid (PsOk (ls2.map LogM.p) ∧ fs.map key3 = (ls2.map LogM.p).map key3P) := Lib.hid (by rw [hp]; exact ⟨HP.out.1.del _ _, by rw [del_key3]; exact HP.out.2⟩)
            clear hp hq
            have cs := O.facts
            try simp only [factsP, cellsP, roomP, foots_cons, foots_nil, foots_append, foot_pt, ptb, ptb_mapA, foot_mapA, factsP_mapA, foot_bun, List.append_nil, List.nil_append, List.cons_append, List.nodup_cons, List.nodup_nil, List.mem_cons, List.not_mem_nil, List.mem_singleton, List.forall_mem_cons, not_or, not_false_eq_true, and_true, true_and, or_false, false_or, forall_eq_or_imp, forall_eq, implies_true, Nat.zero_add, Nat.reduceAdd, and_assoc, upd_listA, upd_mapA, upd_bun, upd_fam, upd_datasA, ptb_datasA, factsP_datasA, ptb_listA, factsP_listA, factsP_mapA, ptb_mapA, Nat.mul_one, factsP_bun, ptb_bun, ptb_fam, factsP_fam, factsP_errA, ptb_errA, upd_errA, itCells] at cs
            go_wp2_with fail
            go_roundw
            case rel => exact ⟨k + 1, ls2, A, c, fs, by omega, by omega, by go_num, rfl, O, HR2⟩
            case measure => simp [intOf]; omega
          · have h4' : (kd == 4) = false := by simpa using h4
            clear h4
            have cs := O.facts
            try simp only [factsP, cellsP, roomP, foots_cons, foots_nil, foots_append, foot_pt, ptb, ptb_mapA, foot_mapA, factsP_mapA, foot_bun, List.append_nil, List.nil_append, List.cons_append, List.nodup_cons, List.nodup_nil, List.mem_cons, List.not_mem_nil, List.mem_singleton, List.forall_mem_cons, not_or, not_false_eq_true, and_true, true_and, or_false, false_or, forall_eq_or_imp, forall_eq, implies_true, Nat.zero_add, Nat.reduceAdd, and_assoc, upd_listA, upd_mapA, upd_bun, upd_fam, upd_datasA, ptb_datasA, factsP_datasA, ptb_listA, factsP_listA, factsP_mapA, ptb_mapA, Nat.mul_one, factsP_bun, ptb_bun, ptb_fam, factsP_fam, factsP_errA, ptb_errA, upd_errA, itCells] at cs
            go_wp2_with fail
            go_roundw
            case rel => exact ⟨k + 1, ls, A, c, fs, by omega, by omega, by go_num, rfl, O.sel [false, true, true, true, true], HP⟩
            case measure => simp [intOf]; omega
    · simp only [sesL] at O
      skip
      have cs := O.facts
      try simp only [factsP, cellsP, roomP, foots_cons, foots_nil, foots_append, foot_pt, ptb, ptb_mapA, foot_mapA, factsP_mapA, foot_bun, List.append_nil, List.nil_append, List.cons_append, List.nodup_cons, List.nodup_nil, List.mem_cons, List.not_mem_nil, List.mem_singleton, List.forall_mem_cons, not_or, not_false_eq_true, and_true, true_and, or_false, false_or, forall_eq_or_imp, forall_eq, implies_true, Nat.zero_add, Nat.reduceAdd, and_assoc, upd_listA, upd_mapA, upd_bun, upd_fam, upd_datasA, ptb_datasA, factsP_datasA, ptb_listA, factsP_listA, factsP_mapA, ptb_mapA, Nat.mul_one, factsP_bun, ptb_bun, ptb_fam, factsP_fam, factsP_errA, ptb_errA, upd_errA, itCells] at cs
      go_upto_region 6 with fail
      go_cut [37] (fun s37 wc => s37 = .bool false ∧ Mem w [] wc [itemsA A c fs, .pt sb [.int .u64 5, .int .i64 1, .int .i64 1, .int .i64 2, .int .i64 3, .map (some lb), .bool false] 77, mapA intK ptrV lb (ls.map lgPtr), fam logA ls])
      case first =>
        by_cases c1 : k < l1.length
        · have c1i : (k : Int) < l1.length := by omega
          have c2i : ¬ (k : Int) < 300 := by omega
          clear hlt
          have cs := O.facts
          try simp only [factsP, cellsP, roomP, foots_cons, foots_nil, foots_append, foot_pt, ptb, ptb_mapA, foot_mapA, factsP_mapA, foot_bun, List.append_nil, List.nil_append, List.cons_append, List.nodup_cons, List.nodup_nil, List.mem_cons, List.not_mem_nil, List.mem_singleton, List.forall_mem_cons, not_or, not_false_eq_true, and_true, true_and, or_false, false_or, forall_eq_or_imp, forall_eq, implies_true, Nat.zero_add, Nat.reduceAdd, and_assoc, upd_listA, upd_mapA, upd_bun, upd_fam, upd_datasA, ptb_datasA, factsP_datasA, ptb_listA, factsP_listA, factsP_mapA, ptb_mapA, Nat.mul_one, factsP_bun, ptb_bun, ptb_fam, factsP_fam, factsP_errA, ptb_errA, upd_errA, itCells] at cs
          go_wp2_with fail
          go_meet
          exact ⟨rfl, O⟩
        · have c1i : ¬ (k : Int) < l1.length := by omega
          clear hlt
          have cs := O.facts
          try simp only [factsP, cellsP, roomP, foots_cons, foots_nil, foots_append, foot_pt, ptb, ptb_mapA, foot_mapA, factsP_mapA, foot_bun, List.append_nil, List.nil_append, List.cons_append, List.nodup_cons, List.nodup_nil, List.mem_cons, List.not_mem_nil, List.mem_singleton, List.forall_mem_cons, not_or, not_false_eq_true, and_true, true_and, or_false, false_or, forall_eq_or_imp, forall_eq, implies_true, Nat.zero_add, Nat.reduceAdd, and_assoc, upd_listA, upd_mapA, upd_bun, upd_fam, upd_datasA, ptb_datasA, factsP_datasA, ptb_listA, factsP_listA, factsP_mapA, ptb_mapA, Nat.mul_one, factsP_bun, ptb_bun, ptb_fam, factsP_fam, factsP_errA, ptb_errA, upd_errA, itCells] at cs
          go_wp2_with fail
          go_meet
          exact ⟨rfl, O⟩
      case rest =>
        clear O hlt
        obtain ⟨rfl, O⟩ := hcut
        have HFK := Lib.hid HP.out.2
        cases ls with
        | nil =>
          have hfs : fs = [] := by
            have := congrArg List.length HFK.out
            simpa using this
          subst hfs
          have CC := Lib.hid (fun W hW => s_Commit_no W ⟨sb, lb, 5, 1, 1, 2, 3⟩ false [] (by simp [codeCommit]) hW)
          have CT := Lib.hid (fun W fb hW => told_yes W (some fb) 201 nCommit (ErrIs.fault (by decide)) hW)
          simp only [SesH.val, nCommit, zeroTx] at CC
          simp only [nCommit] at CT
          simp only [List.length_nil]
          have cs := O.facts
          try simp only [factsP, cellsP, roomP, foots_cons, foots_nil, foots_append, foot_pt, ptb, ptb_mapA, foot_mapA, factsP_mapA, foot_bun, List.append_nil, List.nil_append, List.cons_append, List.nodup_cons, List.nodup_nil, List.mem_cons, List.not_mem_nil, List.mem_singleton, List.forall_mem_cons, not_or, not_false_eq_true, and_true, true_and, or_false, false_or, forall_eq_or_imp, forall_eq, implies_true, Nat.zero_add, Nat.reduceAdd, and_assoc, upd_listA, upd_mapA, upd_bun, upd_fam, upd_datasA, ptb_datasA, factsP_datasA, ptb_listA, factsP_listA, factsP_mapA, ptb_mapA, Nat.mul_one, factsP_bun, ptb_bun, ptb_fam, factsP_fam, factsP_errA, ptb_errA, upd_errA, itCells] at cs
          go_wp2_with fail
          refine (CC.out _ (O.pre [false, true, true, true])).mono ?_
          rintro e w4 ⟨fb, rfl, o⟩
          replace O := O.callp [] o
          clear o CC
          simp only [put, List.cons_append, List.nil_append, errV] at O ⊢
          have cs := O.facts
          try simp only [factsP, cellsP, roomP, foots_cons, foots_nil, foots_append, foot_pt, ptb, ptb_mapA, foot_mapA, factsP_mapA, foot_bun, List.append_nil, List.nil_append, List.cons_append, List.nodup_cons, List.nodup_nil, List.mem_cons, List.not_mem_nil, List.mem_singleton, List.forall_mem_cons, not_or, not_false_eq_true, and_true, true_and, or_false, false_or, forall_eq_or_imp, forall_eq, implies_true, Nat.zero_add, Nat.reduceAdd, and_assoc, upd_listA, upd_mapA, upd_bun, upd_fam, upd_datasA, ptb_datasA, factsP_datasA, ptb_listA, factsP_listA, factsP_mapA, ptb_mapA, Nat.mul_one, factsP_bun, ptb_bun, ptb_fam, factsP_fam, factsP_errA, ptb_errA, upd_errA, itCells] at cs
          go_upto_region 19 with fail
          first | apply Mem.atCall | apply Mem.atCode | apply Mem.atList
          case h => repeat' (first | (with_reducible exact O) | (with_reducible apply Mem.drew) | (with_reducible apply Mem.drewN) | (with_reducible apply Mem.ext) | (with_reducible apply Mem.alloc) | (with_reducible apply Mem.setCell) | (simp only [ptb, ptb_upd, foots_cons, List.mem_cons, World.size_alloc, size_ext, World.size_setCell, true_or, or_true, eq_self_iff_true, ptb_datasA, ptb_listA, ptb_mapA, ptb_bun, ptb_fam, ptb_errA]))
          case' k =>
            intro w5 O'
            (try clear O)
            have O := O'
            clear O'
            (first | simp only [sel, rst, List.cons_append, List.nil_append, World.size_alloc, size_ext, World.size_setCell, size_setMap, World.size_drew, size_drewN, upd, List.set_cons_zero, List.set_cons_succ, if_true, if_false, reduceIte, not_false_eq_true, ne_lt0, ne_lt1, ne_lt2, ne_lt3, ne_lt4, upd_listA, upd_mapA, upd_bun, upd_fam, upd_datasA, upd_errA, cs] at O | simp only [sel, rst, List.cons_append, List.nil_append, World.size_alloc, size_ext, World.size_setCell, size_setMap, World.size_drew, size_drewN, upd, List.set_cons_zero, List.set_cons_succ, if_true, if_false, reduceIte, not_false_eq_true, ne_lt0, ne_lt1, ne_lt2, ne_lt3, ne_lt4, upd_listA, upd_mapA, upd_bun, upd_fam, upd_datasA, upd_errA] at O | skip)
            (try clear cs)
            (try clear v1)
            (try clear v2)
            (try clear v3)
          have cs := O.facts
          try simp only [factsP, cellsP, roomP, foots_cons, foots_nil, foots_append, foot_pt, ptb, ptb_mapA, foot_mapA, factsP_mapA, foot_bun, List.append_nil, List.nil_append, List.cons_append, List.nodup_cons, List.nodup_nil, List.mem_cons, List.not_mem_nil, List.mem_singleton, List.forall_mem_cons, not_or, not_false_eq_true, and_true, true_and, or_false, false_or, forall_eq_or_imp, forall_eq, implies_true, Nat.zero_add, Nat.reduceAdd, and_assoc, upd_listA, upd_mapA, upd_bun, upd_fam, upd_datasA, ptb_datasA, factsP_datasA, ptb_listA, factsP_listA, factsP_mapA, ptb_mapA, Nat.mul_one, factsP_bun, ptb_bun, ptb_fam, factsP_fam, factsP_errA, ptb_errA, upd_errA, itCells] at cs
          go_wp2_with fail
          refine (CT.out _ fb (O.pre [false, true])).mono ?_
          rintro e w6 ⟨rfl, o⟩
          replace O := O.callp [] o
          clear o
          simp only [put, List.nil_append] at O
          have cs := O.facts
          try simp only [factsP, cellsP, roomP, foots_cons, foots_nil, foots_append, foot_pt, ptb, ptb_mapA, foot_mapA, factsP_mapA, foot_bun, List.append_nil, List.nil_append, List.cons_append, List.nodup_cons, List.nodup_nil, List.mem_cons, List.not_mem_nil, List.mem_singleton, List.forall_mem_cons, not_or, not_false_eq_true, and_true, true_and, or_false, false_or, forall_eq_or_imp, forall_eq, implies_true, Nat.zero_add, Nat.reduceAdd, and_assoc, upd_listA, upd_mapA, upd_bun, upd_fam, upd_datasA, ptb_datasA, factsP_datasA, ptb_listA, factsP_listA, factsP_mapA, ptb_mapA, Nat.mul_one, factsP_bun, ptb_bun, ptb_fam, factsP_fam, factsP_errA, ptb_errA, upd_errA, itCells] at cs
          go_wp2_with fail
          go_ret
          exact ⟨rfl, O.fr.below rfl⟩
        | cons E0 ls0 =>
          have hls : E0 :: ls0 ≠ [] := by simp
          generalize E0 :: ls0 = ls at *
          have hmne : ls.map LogM.p ≠ [] := by simpa using hls
          have CC := Lib.hid (fun W hW => s_Commit W ⟨sb, lb, 5, 1, 1, 2, 3⟩ ls hls (by have := HP.out.1.len; simpa using Nat.le_trans this (by omega)) HP.out.1.fits HP.out.1.bks hW)
          simp only [SesH.val] at CC
          clear hls
          have cs := O.facts
          try simp only [factsP, cellsP, roomP, foots_cons, foots_nil, foots_append, foot_pt, ptb, ptb_mapA, foot_mapA, factsP_mapA, foot_bun, List.append_nil, List.nil_append, List.cons_append, List.nodup_cons, List.nodup_nil, List.mem_cons, List.not_mem_nil, List.mem_singleton, List.forall_mem_cons, not_or, not_false_eq_true, and_true, true_and, or_false, false_or, forall_eq_or_imp, forall_eq, implies_true, Nat.zero_add, Nat.reduceAdd, and_assoc, upd_listA, upd_mapA, upd_bun, upd_fam, upd_datasA, ptb_datasA, factsP_datasA, ptb_listA, factsP_listA, factsP_mapA, ptb_mapA, Nat.mul_one, factsP_bun, ptb_bun, ptb_fam, factsP_fam, factsP_errA, ptb_errA, upd_errA, itCells] at cs
          go_wp2_with fail
          refine (CC.out _ (O.pre [false, true, true, true])).mono ?_
          rintro e w4 ⟨A2, c2, s, rfl, hs, o⟩
          have O2 := O.callp [false, true, true, true] o
          clear O o CC
          simp only [sesL, put, List.cons_append, List.nil_append, errV] at O2 ⊢
          have O := O2
          clear O2
          have hlen := commit_len hs
          have hfl : fs.length = (ls.map LogM.p).length := by
            have := congrArg List.length HFK.out
            simpa only [List.length_map] using this
          have hright := fun v => commit_right HP.out.1 hmne hs v
          obtain ⟨n, hn⟩ : ∃ n, s.length = n := ⟨_, rfl⟩
          have hfn : fs.length = n := by rw [hfl, ← hlen, hn]
          have hn8 : n ≤ 8 := by rw [← hn, hlen]; exact HP.out.1.len
          have hn1 : ¬ n = 0 := by
            intro e
            rw [← hn, hlen] at e
            exact hmne (List.eq_nil_of_length_eq_zero e)
          have HFF := Lib.hid (fun f (hf : f ∈ fs) => first_found HP.out.1 hs HFK.out hf)
          have HN := Lib.hid hn
          have HFN := Lib.hid hfn
          have CR := Lib.hid (fun W (h1 : (itemsA A2 c2 s).holds W) (h2 : (datasA s).holds W) => q_Right18 W (TxR.mk 5 1 1 2 3 (.slice A2 n c2) (s.map ItS.r)) (by rw [← hn]; exact items_of (by omega) h1 h2))
          simp only [hright, TxR.val] at CR
          have CSt := Lib.hid (fun W hW => s_State W ⟨sb, lb, 5, 1, 1, 2, 3⟩ true ls hW)
          simp only [SesH.val, if_true] at CSt
          clear hlen hfl hright hn hfn hmne hs
          rw [HN.out, HFN.out]
          have cs := O.facts
          try simp only [factsP, cellsP, roomP, foots_cons, foots_nil, foots_append, foot_pt, ptb, ptb_mapA, foot_mapA, factsP_mapA, foot_bun, List.append_nil, List.nil_append, List.cons_append, List.nodup_cons, List.nodup_nil, List.mem_cons, List.not_mem_nil, List.mem_singleton, List.forall_mem_cons, not_or, not_false_eq_true, and_true, true_and, or_false, false_or, forall_eq_or_imp, forall_eq, implies_true, Nat.zero_add, Nat.reduceAdd, and_assoc, upd_listA, upd_mapA, upd_bun, upd_fam, upd_datasA, ptb_datasA, factsP_datasA, ptb_listA, factsP_listA, factsP_mapA, ptb_mapA, Nat.mul_one, factsP_bun, ptb_bun, ptb_fam, factsP_fam, factsP_errA, ptb_errA, upd_errA, itCells] at cs
          go_upto_region 19 with fail
          first | apply Mem.atCall | apply Mem.atCode | apply Mem.atList
          case h => repeat' (first | (with_reducible exact O) | (with_reducible apply Mem.drew) | (with_reducible apply Mem.drewN) | (with_reducible apply Mem.ext) | (with_reducible apply Mem.alloc) | (with_reducible apply Mem.setCell) | (simp only [ptb, ptb_upd, foots_cons, List.mem_cons, World.size_alloc, size_ext, World.size_setCell, true_or, or_true, eq_self_iff_true, ptb_datasA, ptb_listA, ptb_mapA, ptb_bun, ptb_fam, ptb_errA]))
          case' k =>
            intro w5 O'
            (try clear O)
            have O := O'
            clear O'
            (first | simp only [sel, rst, List.cons_append, List.nil_append, World.size_alloc, size_ext, World.size_setCell, size_setMap, World.size_drew, size_drewN, upd, List.set_cons_zero, List.set_cons_succ, if_true, if_false, reduceIte, not_false_eq_true, ne_lt0, ne_lt1, ne_lt2, ne_lt3, ne_lt4, upd_listA, upd_mapA, upd_bun, upd_fam, upd_datasA, upd_errA, cs] at O | simp only [sel, rst, List.cons_append, List.nil_append, World.size_alloc, size_ext, World.size_setCell, size_setMap, World.size_drew, size_drewN, upd, List.set_cons_zero, List.set_cons_succ, if_true, if_false, reduceIte, not_false_eq_true, ne_lt0, ne_lt1, ne_lt2, ne_lt3, ne_lt4, upd_listA, upd_mapA, upd_bun, upd_fam, upd_datasA, upd_errA] at O | skip)
            (try clear cs)
            (try clear v1)
            (try clear v2)
            (try clear v3)
          generalize w4.heap.size = t9 at O ⊢
          have cs := O.facts
          try simp only [factsP, cellsP, roomP, foots_cons, foots_nil, foots_append, foot_pt, ptb, ptb_mapA, foot_mapA, factsP_mapA, foot_bun, List.append_nil, List.nil_append, List.cons_append, List.nodup_cons, List.nodup_nil, List.mem_cons, List.not_mem_nil, List.mem_singleton, List.forall_mem_cons, not_or, not_false_eq_true, and_true, true_and, or_false, false_or, forall_eq_or_imp, forall_eq, implies_true, Nat.zero_add, Nat.reduceAdd, and_assoc, upd_listA, upd_mapA, upd_bun, upd_fam, upd_datasA, ptb_datasA, factsP_datasA, ptb_listA, factsP_listA, factsP_mapA, ptb_mapA, Nat.mul_one, factsP_bun, ptb_bun, ptb_fam, factsP_fam, factsP_errA, ptb_errA, upd_errA, itCells] at cs
          go_wp2_with fail
          refine (CR.out _ (O.hold _ (by simp)) (O.hold _ (by simp))).mono ?_
          rintro e w6 ⟨rfl, o⟩
          replace O := O.callp [] o
          clear o CR
          simp only [put, List.nil_append] at O
          have cs := O.facts
          try simp only [factsP, cellsP, roomP, foots_cons, foots_nil, foots_append, foot_pt, ptb, ptb_mapA, foot_mapA, factsP_mapA, foot_bun, List.append_nil, List.nil_append, List.cons_append, List.nodup_cons, List.nodup_nil, List.mem_cons, List.not_mem_nil, List.mem_singleton, List.forall_mem_cons, not_or, not_false_eq_true, and_true, true_and, or_false, false_or, forall_eq_or_imp, forall_eq, implies_true, Nat.zero_add, Nat.reduceAdd, and_assoc, upd_listA, upd_mapA, upd_bun, upd_fam, upd_datasA, ptb_datasA, factsP_datasA, ptb_listA, factsP_listA, factsP_mapA, ptb_mapA, Nat.mul_one, factsP_bun, ptb_bun, ptb_fam, factsP_fam, factsP_errA, ptb_errA, upd_errA, itCells] at cs
          go_wp2_with fail
          refine (CSt.out _ (O.pre [false, false, true, true, true])).mono ?_
          rintro e w7 ⟨rfl, o⟩
          replace O := O.callp [] o
          clear o CSt
          simp only [put, List.nil_append] at O
          have cs := O.facts
          try simp only [factsP, cellsP, roomP, foots_cons, foots_nil, foots_append, foot_pt, ptb, ptb_mapA, foot_mapA, factsP_mapA, foot_bun, List.append_nil, List.nil_append, List.cons_append, List.nodup_cons, List.nodup_nil, List.mem_cons, List.not_mem_nil, List.mem_singleton, List.forall_mem_cons, not_or, not_false_eq_true, and_true, true_and, or_false, false_or, forall_eq_or_imp, forall_eq, implies_true, Nat.zero_add, Nat.reduceAdd, and_assoc, upd_listA, upd_mapA, upd_bun, upd_fam, upd_datasA, ptb_datasA, factsP_datasA, ptb_listA, factsP_listA, factsP_mapA, ptb_mapA, Nat.mul_one, factsP_bun, ptb_bun, ptb_fam, factsP_fam, factsP_errA, ptb_errA, upd_errA, itCells] at cs
          go_wp2_with fail
          clear cs
          have O2 := O.sel [true, true, false, false, false, true]
          clear O
          simp only [Tk.sel] at O2
          have O := O2
          clear O2
          replace O := (((O).front [false, true]).front [false, false, true]).front [false, false, true]
          simp only [Tk.sel, rst, List.cons_append, List.nil_append] at O
          replace O := O.sel [true, true, true]
          simp only [Tk.sel] at O
          go_loopw [11] (fun s11 wr => ∃ (i : Nat), i ≤ n ∧ s11 = .int .i64 i ∧ Mem w [] wr [.pt t9 [.int .u64 5, .int .i64 1, .int .i64 1, .int .i64 2, .int .i64 3, .slice A2 n c2] 45, itemsA A2 c2 s, itemsA A c fs]) (fun s11 _ => n - (intOf s11).toNat)
          case atStart => exact ⟨0, by omega, rfl, O⟩
          case round =>
            clear O
            obtain ⟨i, hi, rfl, O⟩ := hrel
            by_cases hlt : i < n
            · have hlti : (i : Int) < n := by omega
              obtain ⟨f, hf⟩ : ∃ f, fs[i]? = some f := ⟨_, List.getElem?_eq_getElem (by rw [HFN.out]; exact hlt)⟩
              have HF := Lib.hid hf
              have HANY := Lib.hid (HFF.out f (List.mem_of_getElem? hf))
              obtain ⟨gf, rfl, _⟩ := listA_get itLen (O.hold (itemsA A c fs) (by simp)) hf
              clear hf
              skip
              have cs := O.facts
              try simp only [factsP, cellsP, roomP, foots_cons, foots_nil, foots_append, foot_pt, ptb, ptb_mapA, foot_mapA, factsP_mapA, foot_bun, List.append_nil, List.nil_append, List.cons_append, List.nodup_cons, List.nodup_nil, List.mem_cons, List.not_mem_nil, List.mem_singleton, List.forall_mem_cons, not_or, not_false_eq_true, and_true, true_and, or_false, false_or, forall_eq_or_imp, forall_eq, implies_true, Nat.zero_add, Nat.reduceAdd, and_assoc, upd_listA, upd_mapA, upd_bun, upd_fam, upd_datasA, ptb_datasA, factsP_datasA, ptb_listA, factsP_listA, factsP_mapA, ptb_mapA, Nat.mul_one, factsP_bun, ptb_bun, ptb_fam, factsP_fam, factsP_errA, ptb_errA, upd_errA, itCells] at cs
              go_wp2_with fail
              clear cs
              go_loopw [12, 13] (fun s12 s13 wr => ∃ (k : Nat), k ≤ n ∧ s13 = .int .i64 k ∧ s12 = .bool ((s.take k).any (fun x => mtch x f)) ∧ Mem w [] wr [.pt t9 [.int .u64 5, .int .i64 1, .int .i64 1, .int .i64 2, .int .i64 3, .slice A2 n c2] 45, itemsA A2 c2 s, itemsA (some ⟨gf, 0, none⟩) c fs]) (fun _ s13 _ => n - (intOf s13).toNat)
              case atStart => exact ⟨0, by omega, rfl, rfl, O⟩
              case round =>
                clear O
                obtain ⟨k, hk, rfl, rfl, O⟩ := hrel
                by_cases hkt : k < n
                · have hkti : (k : Int) < n := by omega
                  obtain ⟨x, hx⟩ : ∃ x, s[k]? = some x := ⟨_, List.getElem?_eq_getElem (by rw [HN.out]; exact hkt)⟩
                  have htk : (s.take (k + 1)).any (fun x => mtch x f) = ((s.take k).any (fun x => mtch x f) || mtch x f) := by
                    rw [List.take_succ_eq_append_getElem (by rw [HN.out]; exact hkt), List.any_append, (List.getElem?_eq_some_iff.1 hx).2]
                    simp
                  have HTK := Lib.hid htk
                  have HX := Lib.hid hx
                  obtain ⟨gx, rfl, _⟩ := listA_get itLen (O.hold (itemsA A2 c2 s) (by simp)) hx
                  clear hx htk
                  generalize (s.take k).any (fun x => mtch x f) = fd at *
                  have hmt : mtch x f = ((x.bucket == f.bucket) && ((x.ver == f.ver) && (x.inc 0 == f.inc 0 && x.inc 1 == f.inc 1 && x.inc 2 == f.inc 2 && x.inc 3 == f.inc 3))) := rfl
                  have HMT := Lib.hid hmt
                  clear hmt
                  have hinc := fun W => eqIncsG (x.inc 0) (x.inc 1) (x.inc 2) (x.inc 3) (f.inc 0) (f.inc 1) (f.inc 2) (f.inc 3) W
                  generalize mtch x f = mt at *
                  obtain ⟨xb, xv, xw, xB, xd, xe, xi⟩ := x
                  obtain ⟨fb, fv, fw, fB, fd2, fe, fi⟩ := f
                  simp only at hinc HMT
                  generalize (xi 0 == fi 0 && xi 1 == fi 1 && xi 2 == fi 2 && xi 3 == fi 3) = i3 at hinc HMT
                  skip
                  have cs := O.facts
                  try simp only [factsP, cellsP, roomP, foots_cons, foots_nil, foots_append, foot_pt, ptb, ptb_mapA, foot_mapA, factsP_mapA, foot_bun, List.append_nil, List.nil_append, List.cons_append, List.nodup_cons, List.nodup_nil, List.mem_cons, List.not_mem_nil, List.mem_singleton, List.forall_mem_cons, not_or, not_false_eq_true, and_true, true_and, or_false, false_or, forall_eq_or_imp, forall_eq, implies_true, Nat.zero_add, Nat.reduceAdd, and_assoc, upd_listA, upd_mapA, upd_bun, upd_fam, upd_datasA, ptb_datasA, factsP_datasA, ptb_listA, factsP_listA, factsP_mapA, ptb_mapA, Nat.mul_one, factsP_bun, ptb_bun, ptb_fam, factsP_fam, factsP_errA, ptb_errA, upd_errA, itCells] at cs
                  try have v1 := (listA_at itLen (O.hold (itemsA (some ⟨gx, 0, none⟩) c2 s) (by simp)) HX.out)
                  try simp only [cellsQ, roomP, and_assoc, and_true, true_and, Nat.add_zero, Nat.zero_add, Nat.reduceAdd, factsP, cellsP, roomP, foots_cons, foots_nil, foots_append, foot_pt, ptb, ptb_mapA, foot_mapA, factsP_mapA, foot_bun, List.append_nil, List.nil_append, List.cons_append, List.nodup_cons, List.nodup_nil, List.mem_cons, List.not_mem_nil, List.mem_singleton, List.forall_mem_cons, not_or, not_false_eq_true, and_true, true_and, or_false, false_or, forall_eq_or_imp, forall_eq, implies_true, Nat.zero_add, Nat.reduceAdd, and_assoc, upd_listA, upd_mapA, upd_bun, upd_fam, upd_datasA, ptb_datasA, factsP_datasA, ptb_listA, factsP_listA, factsP_mapA, ptb_mapA, Nat.mul_one, factsP_bun, ptb_bun, ptb_fam, factsP_fam, factsP_errA, ptb_errA, upd_errA, itCells] at v1
                  go_upto_region 32 with fail
                  first | apply Mem.atCall | apply Mem.atCode | apply Mem.atList
                  case h => repeat' (first | (with_reducible exact O) | (with_reducible apply Mem.drew) | (with_reducible apply Mem.drewN) | (with_reducible apply Mem.ext) | (with_reducible apply Mem.alloc) | (with_reducible apply Mem.setCell) | (simp only [ptb, ptb_upd, foots_cons, List.mem_cons, World.size_alloc, size_ext, World.size_setCell, true_or, or_true, eq_self_iff_true, ptb_datasA, ptb_listA, ptb_mapA, ptb_bun, ptb_fam, ptb_errA]))
                  case' k =>
                    intro w8 O'
                    (try clear O)
                    have O := O'
                    clear O'
                    (first | simp only [sel, rst, List.cons_append, List.nil_append, World.size_alloc, size_ext, World.size_setCell, size_setMap, World.size_drew, size_drewN, upd, List.set_cons_zero, List.set_cons_succ, if_true, if_false, reduceIte, not_false_eq_true, ne_lt0, ne_lt1, ne_lt2, ne_lt3, ne_lt4, upd_listA, upd_mapA, upd_bun, upd_fam, upd_datasA, upd_errA, cs] at O | simp only [sel, rst, List.cons_append, List.nil_append, World.size_alloc, size_ext, World.size_setCell, size_setMap, World.size_drew, size_drewN, upd, List.set_cons_zero, List.set_cons_succ, if_true, if_false, reduceIte, not_false_eq_true, ne_lt0, ne_lt1, ne_lt2, ne_lt3, ne_lt4, upd_listA, upd_mapA, upd_bun, upd_fam, upd_datasA, upd_errA] at O | skip)
                    (try clear cs)
                    (try clear v1)
                    (try clear v2)
                    (try clear v3)
                  generalize wr.heap.size = xq at O ⊢
                  cases fd with
                  | true =>
                      clear hinc HMT
                      skip
                      apply region_quiet_mem (by kernel_rfl) (by kernel_rfl)
                      case O => repeat' (first | (with_reducible exact O) | (with_reducible apply Mem.drew) | (with_reducible apply Mem.drewN) | (with_reducible apply Mem.ext) | (with_reducible apply Mem.alloc) | (with_reducible apply Mem.setCell) | (simp only [ptb, ptb_upd, foots_cons, List.mem_cons, World.size_alloc, size_ext, World.size_setCell, true_or, or_true, eq_self_iff_true, ptb_datasA, ptb_listA, ptb_mapA, ptb_bun, ptb_fam, ptb_errA]))
                      case' h =>
                        intro w9 O'
                        (try clear O)
                        have O := O'
                        clear O'
                        (first | simp only [sel, rst, List.cons_append, List.nil_append, World.size_alloc, size_ext, World.size_setCell, size_setMap, World.size_drew, size_drewN, upd, List.set_cons_zero, List.set_cons_succ, if_true, if_false, reduceIte, not_false_eq_true, ne_lt0, ne_lt1, ne_lt2, ne_lt3, ne_lt4, upd_listA, upd_mapA, upd_bun, upd_fam, upd_datasA, upd_errA, cs] at O | simp only [sel, rst, List.cons_append, List.nil_append, World.size_alloc, size_ext, World.size_setCell, size_setMap, World.size_drew, size_drewN, upd, List.set_cons_zero, List.set_cons_succ, if_true, if_false, reduceIte, not_false_eq_true, ne_lt0, ne_lt1, ne_lt2, ne_lt3, ne_lt4, upd_listA, upd_mapA, upd_bun, upd_fam, upd_datasA, upd_errA] at O | skip)
                        (try clear cs)
                        (try clear v1)
                        (try clear v2)
                        (try clear v3)
                      have cs := O.facts
                      try simp only [factsP, cellsP, roomP, foots_cons, foots_nil, foots_append, foot_pt, ptb, ptb_mapA, foot_mapA, factsP_mapA, foot_bun, List.append_nil, List.nil_append, List.cons_append, List.nodup_cons, List.nodup_nil, List.mem_cons, List.not_mem_nil, List.mem_singleton, List.forall_mem_cons, not_or, not_false_eq_true, and_true, true_and, or_false, false_or, forall_eq_or_imp, forall_eq, implies_true, Nat.zero_add, Nat.reduceAdd, and_assoc, upd_listA, upd_mapA, upd_bun, upd_fam, upd_datasA, ptb_datasA, factsP_datasA, ptb_listA, factsP_listA, factsP_mapA, ptb_mapA, Nat.mul_one, factsP_bun, ptb_bun, ptb_fam, factsP_fam, factsP_errA, ptb_errA, upd_errA, itCells] at cs
                      try have v1 := (listA_at itLen (O.hold (itemsA (some ⟨gf, 0, none⟩) c fs) (by simp)) HF.out)
                      try simp only [cellsQ, roomP, and_assoc, and_true, true_and, Nat.add_zero, Nat.zero_add, Nat.reduceAdd, factsP, cellsP, roomP, foots_cons, foots_nil, foots_append, foot_pt, ptb, ptb_mapA, foot_mapA, factsP_mapA, foot_bun, List.append_nil, List.nil_append, List.cons_append, List.nodup_cons, List.nodup_nil, List.mem_cons, List.not_mem_nil, List.mem_singleton, List.forall_mem_cons, not_or, not_false_eq_true, and_true, true_and, or_false, false_or, forall_eq_or_imp, forall_eq, implies_true, Nat.zero_add, Nat.reduceAdd, and_assoc, upd_listA, upd_mapA, upd_bun, upd_fam, upd_datasA, ptb_datasA, factsP_datasA, ptb_listA, factsP_listA, factsP_mapA, ptb_mapA, Nat.mul_one, factsP_bun, ptb_bun, ptb_fam, factsP_fam, factsP_errA, ptb_errA, upd_errA, itCells] at v1
                      repeat (go_big_quiet_step ((fail)))
                      refine wpQuiet_nil ?_
                      intro w10 hq
                      (try clear cs)
                      (try clear v1)
                      (try clear v2)
                      (try clear v3)
                      replace O := O.qext hq
                      clear hq
                      skip
                      have cs := O.facts
                      try simp only [factsP, cellsP, roomP, foots_cons, foots_nil, foots_append, foot_pt, ptb, ptb_mapA, foot_mapA, factsP_mapA, foot_bun, List.append_nil, List.nil_append, List.cons_append, List.nodup_cons, List.nodup_nil, List.mem_cons, List.not_mem_nil, List.mem_singleton, List.forall_mem_cons, not_or, not_false_eq_true, and_true, true_and, or_false, false_or, forall_eq_or_imp, forall_eq, implies_true, Nat.zero_add, Nat.reduceAdd, and_assoc, upd_listA, upd_mapA, upd_bun, upd_fam, upd_datasA, ptb_datasA, factsP_datasA, ptb_listA, factsP_listA, factsP_mapA, ptb_mapA, Nat.mul_one, factsP_bun, ptb_bun, ptb_fam, factsP_fam, factsP_errA, ptb_errA, upd_errA, itCells] at cs
                      go_wp2_with fail
                      go_roundw
                      case rel => exact ⟨k + 1, by omega, by go_num, by rw [HTK.out]; rfl, O.sel [false, true, true, true]⟩
                      case measure => simp [intOf]; omega
                  | false =>
                    rw [Bool.false_or] at HTK
                    by_cases e1 : xb = fb
                    · have e1' : (xb == fb) = true := by simpa using e1
                      by_cases e2 : xv = fv
                      · have e2' : (xv == fv) = true := by simpa using e2
                        have hm : mt = i3 := by rw [HMT.out, e1', e2']; rfl
                        have HM := Lib.hid hm
                        clear hm e1 e2 HMT
                        skip
                        apply region_quiet_mem (by kernel_rfl) (by kernel_rfl)
                        case O => repeat' (first | (with_reducible exact O) | (with_reducible apply Mem.drew) | (with_reducible apply Mem.drewN) | (with_reducible apply Mem.ext) | (with_reducible apply Mem.alloc) | (with_reducible apply Mem.setCell) | (simp only [ptb, ptb_upd, foots_cons, List.mem_cons, World.size_alloc, size_ext, World.size_setCell, true_or, or_true, eq_self_iff_true, ptb_datasA, ptb_listA, ptb_mapA, ptb_bun, ptb_fam, ptb_errA]))
                        case' h =>
                          intro w9 O'
                          (try clear O)
                          have O := O'
                          clear O'
                          (first | simp only [sel, rst, List.cons_append, List.nil_append, World.size_alloc, size_ext, World.size_setCell, size_setMap, World.size_drew, size_drewN, upd, List.set_cons_zero, List.set_cons_succ, if_true, if_false, reduceIte, not_false_eq_true, ne_lt0, ne_lt1, ne_lt2, ne_lt3, ne_lt4, upd_listA, upd_mapA, upd_bun, upd_fam, upd_datasA, upd_errA, cs] at O | simp only [sel, rst, List.cons_append, List.nil_append, World.size_alloc, size_ext, World.size_setCell, size_setMap, World.size_drew, size_drewN, upd, List.set_cons_zero, List.set_cons_succ, if_true, if_false, reduceIte, not_false_eq_true, ne_lt0, ne_lt1, ne_lt2, ne_lt3, ne_lt4, upd_listA, upd_mapA, upd_bun, upd_fam, upd_datasA, upd_errA] at O | skip)
                          (try clear cs)
                          (try clear v1)
                          (try clear v2)
                          (try clear v3)
                        have cs := O.facts
                        try simp only [factsP, cellsP, roomP, foots_cons, foots_nil, foots_append, foot_pt, ptb, ptb_mapA, foot_mapA, factsP_mapA, foot_bun, List.append_nil, List.nil_append, List.cons_append, List.nodup_cons, List.nodup_nil, List.mem_cons, List.not_mem_nil, List.mem_singleton, List.forall_mem_cons, not_or, not_false_eq_true, and_true, true_and, or_false, false_or, forall_eq_or_imp, forall_eq, implies_true, Nat.zero_add, Nat.reduceAdd, and_assoc, upd_listA, upd_mapA, upd_bun, upd_fam, upd_datasA, ptb_datasA, factsP_datasA, ptb_listA, factsP_listA, factsP_mapA, ptb_mapA, Nat.mul_one, factsP_bun, ptb_bun, ptb_fam, factsP_fam, factsP_errA, ptb_errA, upd_errA, itCells] at cs
                        try have v1 := (listA_at itLen (O.hold (itemsA (some ⟨gf, 0, none⟩) c fs) (by simp)) HF.out)
                        try simp only [cellsQ, roomP, and_assoc, and_true, true_and, Nat.add_zero, Nat.zero_add, Nat.reduceAdd, factsP, cellsP, roomP, foots_cons, foots_nil, foots_append, foot_pt, ptb, ptb_mapA, foot_mapA, factsP_mapA, foot_bun, List.append_nil, List.nil_append, List.cons_append, List.nodup_cons, List.nodup_nil, List.mem_cons, List.not_mem_nil, List.mem_singleton, List.forall_mem_cons, not_or, not_false_eq_true, and_true, true_and, or_false, false_or, forall_eq_or_imp, forall_eq, implies_true, Nat.zero_add, Nat.reduceAdd, and_assoc, upd_listA, upd_mapA, upd_bun, upd_fam, upd_datasA, ptb_datasA, factsP_datasA, ptb_listA, factsP_listA, factsP_mapA, ptb_mapA, Nat.mul_one, factsP_bun, ptb_bun, ptb_fam, factsP_fam, factsP_errA, ptb_errA, upd_errA, itCells] at v1
                        repeat (go_big_quiet_step ((fail)))
                        refine wpQuiet_nil ?_
                        intro w10 hq
                        (try clear cs)
                        (try clear v1)
                        (try clear v2)
                        (try clear v3)
                        replace O := O.qext hq
                        clear hq
                        skip
                        have cs := O.facts
                        try simp only [factsP, cellsP, roomP, foots_cons, foots_nil, foots_append, foot_pt, ptb, ptb_mapA, foot_mapA, factsP_mapA, foot_bun, List.append_nil, List.nil_append, List.cons_append, List.nodup_cons, List.nodup_nil, List.mem_cons, List.not_mem_nil, List.mem_singleton, List.forall_mem_cons, not_or, not_false_eq_true, and_true, true_and, or_false, false_or, forall_eq_or_imp, forall_eq, implies_true, Nat.zero_add, Nat.reduceAdd, and_assoc, upd_listA, upd_mapA, upd_bun, upd_fam, upd_datasA, ptb_datasA, factsP_datasA, ptb_listA, factsP_listA, factsP_mapA, ptb_mapA, Nat.mul_one, factsP_bun, ptb_bun, ptb_fam, factsP_fam, factsP_errA, ptb_errA, upd_errA, itCells] at cs
                        go_wp2_with fail
                        go_roundw
                        case rel => exact ⟨k + 1, by omega, by go_num, by rw [HTK.out]; rw [HM.out], O.sel [false, true, true, true]⟩
                        case measure => simp [intOf]; omega
                      · have e2' : (xv == fv) = false := by simpa using e2
                        have hm : mt = false := by rw [HMT.out, e1', e2']; rfl
                        have HM := Lib.hid hm
                        clear hm e1 e2 HMT hinc
                        skip
                        apply region_quiet_mem (by kernel_rfl) (by kernel_rfl)
                        case O => repeat' (first | (with_reducible exact O) | (with_reducible apply Mem.drew) | (with_reducible apply Mem.drewN) | (with_reducible apply Mem.ext) | (with_reducible apply Mem.alloc) | (with_reducible apply Mem.setCell) | (simp only [ptb, ptb_upd, foots_cons, List.mem_cons, World.size_alloc, size_ext, World.size_setCell, true_or, or_true, eq_self_iff_true, ptb_datasA, ptb_listA, ptb_mapA, ptb_bun, ptb_fam, ptb_errA]))
                        case' h =>
                          intro w9 O'
                          (try clear O)
                          have O := O'
                          clear O'
                          (first | simp only [sel, rst, List.cons_append, List.nil_append, World.size_alloc, size_ext, World.size_setCell, size_setMap, World.size_drew, size_drewN, upd, List.set_cons_zero, List.set_cons_succ, if_true, if_false, reduceIte, not_false_eq_true, ne_lt0, ne_lt1, ne_lt2, ne_lt3, ne_lt4, upd_listA, upd_mapA, upd_bun, upd_fam, upd_datasA, upd_errA, cs] at O | simp only [sel, rst, List.cons_append, List.nil_append, World.size_alloc, size_ext, World.size_setCell, size_setMap, World.size_drew, size_drewN, upd, List.set_cons_zero, List.set_cons_succ, if_true, if_false, reduceIte, not_false_eq_true, ne_lt0, ne_lt1, ne_lt2, ne_lt3, ne_lt4, upd_listA, upd_mapA, upd_bun, upd_fam, upd_datasA, upd_errA] at O | skip)
                          (try clear cs)
                          (try clear v1)
                          (try clear v2)
                          (try clear v3)
                        have cs := O.facts
                        try simp only [factsP, cellsP, roomP, foots_cons, foots_nil, foots_append, foot_pt, ptb, ptb_mapA, foot_mapA, factsP_mapA, foot_bun, List.append_nil, List.nil_append, List.cons_append, List.nodup_cons, List.nodup_nil, List.mem_cons, List.not_mem_nil, List.mem_singleton, List.forall_mem_cons, not_or, not_false_eq_true, and_true, true_and, or_false, false_or, forall_eq_or_imp, forall_eq, implies_true, Nat.zero_add, Nat.reduceAdd, and_assoc, upd_listA, upd_mapA, upd_bun, upd_fam, upd_datasA, ptb_datasA, factsP_datasA, ptb_listA, factsP_listA, factsP_mapA, ptb_mapA, Nat.mul_one, factsP_bun, ptb_bun, ptb_fam, factsP_fam, factsP_errA, ptb_errA, upd_errA, itCells] at cs
                        try have v1 := (listA_at itLen (O.hold (itemsA (some ⟨gf, 0, none⟩) c fs) (by simp)) HF.out)
                        try simp only [cellsQ, roomP, and_assoc, and_true, true_and, Nat.add_zero, Nat.zero_add, Nat.reduceAdd, factsP, cellsP, roomP, foots_cons, foots_nil, foots_append, foot_pt, ptb, ptb_mapA, foot_mapA, factsP_mapA, foot_bun, List.append_nil, List.nil_append, List.cons_append, List.nodup_cons, List.nodup_nil, List.mem_cons, List.not_mem_nil, List.mem_singleton, List.forall_mem_cons, not_or, not_false_eq_true, and_true, true_and, or_false, false_or, forall_eq_or_imp, forall_eq, implies_true, Nat.zero_add, Nat.reduceAdd, and_assoc, upd_listA, upd_mapA, upd_bun, upd_fam, upd_datasA, ptb_datasA, factsP_datasA, ptb_listA, factsP_listA, factsP_mapA, ptb_mapA, Nat.mul_one, factsP_bun, ptb_bun, ptb_fam, factsP_fam, factsP_errA, ptb_errA, upd_errA, itCells] at v1
                        repeat (go_big_quiet_step ((fail)))
                        refine wpQuiet_nil ?_
                        intro w10 hq
                        (try clear cs)
                        (try clear v1)
                        (try clear v2)
                        (try clear v3)
                        replace O := O.qext hq
                        clear hq
                        skip
                        have cs := O.facts
                        try simp only [factsP, cellsP, roomP, foots_cons, foots_nil, foots_append, foot_pt, ptb, ptb_mapA, foot_mapA, factsP_mapA, foot_bun, List.append_nil, List.nil_append, List.cons_append, List.nodup_cons, List.nodup_nil, List.mem_cons, List.not_mem_nil, List.mem_singleton, List.forall_mem_cons, not_or, not_false_eq_true, and_true, true_and, or_false, false_or, forall_eq_or_imp, forall_eq, implies_true, Nat.zero_add, Nat.reduceAdd, and_assoc, upd_listA, upd_mapA, upd_bun, upd_fam, upd_datasA, ptb_datasA, factsP_datasA, ptb_listA, factsP_listA, factsP_mapA, ptb_mapA, Nat.mul_one, factsP_bun, ptb_bun, ptb_fam, factsP_fam, factsP_errA, ptb_errA, upd_errA, itCells] at cs
                        go_wp2_with fail
                        go_roundw
                        case rel => exact ⟨k + 1, by omega, by go_num, by rw [HTK.out]; rw [HM.out], O.sel [false, true, true, true]⟩
                        case measure => simp [intOf]; omega
                    · have e1' : (xb == fb) = false := by simpa using e1
                      have hm : mt = false := by rw [HMT.out, e1']; rfl
                      have HM := Lib.hid hm
                      clear hm e1 HMT hinc
                      skip
                      apply region_quiet_mem (by kernel_rfl) (by kernel_rfl)
                      case O => repeat' (first | (with_reducible exact O) | (with_reducible apply Mem.drew) | (with_reducible apply Mem.drewN) | (with_reducible apply Mem.ext) | (with_reducible apply Mem.alloc) | (with_reducible apply Mem.setCell) | (simp only [ptb, ptb_upd, foots_cons, List.mem_cons, World.size_alloc, size_ext, World.size_setCell, true_or, or_true, eq_self_iff_true, ptb_datasA, ptb_listA, ptb_mapA, ptb_bun, ptb_fam, ptb_errA]))
                      case' h =>
                        intro w9 O'
                        (try clear O)
                        have O := O'
                        clear O'
                        (first | simp only [sel, rst, List.cons_append, List.nil_append, World.size_alloc, size_ext, World.size_setCell, size_setMap, World.size_drew, size_drewN, upd, List.set_cons_zero, List.set_cons_succ, if_true, if_false, reduceIte, not_false_eq_true, ne_lt0, ne_lt1, ne_lt2, ne_lt3, ne_lt4, upd_listA, upd_mapA, upd_bun, upd_fam, upd_datasA, upd_errA, cs] at O | simp only [sel, rst, List.cons_append, List.nil_append, World.size_alloc, size_ext, World.size_setCell, size_setMap, World.size_drew, size_drewN, upd, List.set_cons_zero, List.set_cons_succ, if_true, if_false, reduceIte, not_false_eq_true, ne_lt0, ne_lt1, ne_lt2, ne_lt3, ne_lt4, upd_listA, upd_mapA, upd_bun, upd_fam, upd_datasA, upd_errA] at O | skip)
                        (try clear cs)
                        (try clear v1)
                        (try clear v2)
                        (try clear v3)
                      have cs := O.facts
                      try simp only [factsP, cellsP, roomP, foots_cons, foots_nil, foots_append, foot_pt, ptb, ptb_mapA, foot_mapA, factsP_mapA, foot_bun, List.append_nil, List.nil_append, List.cons_append, List.nodup_cons, List.nodup_nil, List.mem_cons, List.not_mem_nil, List.mem_singleton, List.forall_mem_cons, not_or, not_false_eq_true, and_true, true_and, or_false, false_or, forall_eq_or_imp, forall_eq, implies_true, Nat.zero_add, Nat.reduceAdd, and_assoc, upd_listA, upd_mapA, upd_bun, upd_fam, upd_datasA, ptb_datasA, factsP_datasA, ptb_listA, factsP_listA, factsP_mapA, ptb_mapA, Nat.mul_one, factsP_bun, ptb_bun, ptb_fam, factsP_fam, factsP_errA, ptb_errA, upd_errA, itCells] at cs
                      try have v1 := (listA_at itLen (O.hold (itemsA (some ⟨gf, 0, none⟩) c fs) (by simp)) HF.out)
                      try simp only [cellsQ, roomP, and_assoc, and_true, true_and, Nat.add_zero, Nat.zero_add, Nat.reduceAdd, factsP, cellsP, roomP, foots_cons, foots_nil, foots_append, foot_pt, ptb, ptb_mapA, foot_mapA, factsP_mapA, foot_bun, List.append_nil, List.nil_append, List.cons_append, List.nodup_cons, List.nodup_nil, List.mem_cons, List.not_mem_nil, List.mem_singleton, List.forall_mem_cons, not_or, not_false_eq_true, and_true, true_and, or_false, false_or, forall_eq_or_imp, forall_eq, implies_true, Nat.zero_add, Nat.reduceAdd, and_assoc, upd_listA, upd_mapA, upd_bun, upd_fam, upd_datasA, ptb_datasA, factsP_datasA, ptb_listA, factsP_listA, factsP_mapA, ptb_mapA, Nat.mul_one, factsP_bun, ptb_bun, ptb_fam, factsP_fam, factsP_errA, ptb_errA, upd_errA, itCells] at v1
                      repeat (go_big_quiet_step ((fail)))
                      refine wpQuiet_nil ?_
                      intro w10 hq
                      (try clear cs)
                      (try clear v1)
                      (try clear v2)
                      (try clear v3)
                      replace O := O.qext hq
                      clear hq
                      skip
                      have cs := O.facts
                      try simp only [factsP, cellsP, roomP, foots_cons, foots_nil, foots_append, foot_pt, ptb, ptb_mapA, foot_mapA, factsP_mapA, foot_bun, List.append_nil, List.nil_append, List.cons_append, List.nodup_cons, List.nodup_nil, List.mem_cons, List.not_mem_nil, List.mem_singleton, List.forall_mem_cons, not_or, not_false_eq_true, and_true, true_and, or_false, false_or, forall_eq_or_imp, forall_eq, implies_true, Nat.zero_add, Nat.reduceAdd, and_assoc, upd_listA, upd_mapA, upd_bun, upd_fam, upd_datasA, ptb_datasA, factsP_datasA, ptb_listA, factsP_listA, factsP_mapA, ptb_mapA, Nat.mul_one, factsP_bun, ptb_bun, ptb_fam, factsP_fam, factsP_errA, ptb_errA, upd_errA, itCells] at cs
                      go_wp2_with fail
                      go_roundw
                      case rel => exact ⟨k + 1, by omega, by go_num, by rw [HTK.out]; rw [HM.out], O.sel [false, true, true, true]⟩
                      case measure => simp [intOf]; omega
                · obtain rfl : k = n := by omega
                  have ht : (s.take k).any (fun x => mtch x f) = true := by rw [List.take_of_length_le (by rw [HN.out]; exact Nat.le_refl _)]; exact HANY.out
                  rw [ht]
                  skip
                  have cs := O.facts
                  try simp only [factsP, cellsP, roomP, foots_cons, foots_nil, foots_append, foot_pt, ptb, ptb_mapA, foot_mapA, factsP_mapA, foot_bun, List.append_nil, List.nil_append, List.cons_append, List.nodup_cons, List.nodup_nil, List.mem_cons, List.not_mem_nil, List.mem_singleton, List.forall_mem_cons, not_or, not_false_eq_true, and_true, true_and, or_false, false_or, forall_eq_or_imp, forall_eq, implies_true, Nat.zero_add, Nat.reduceAdd, and_assoc, upd_listA, upd_mapA, upd_bun, upd_fam, upd_datasA, ptb_datasA, factsP_datasA, ptb_listA, factsP_listA, factsP_mapA, ptb_mapA, Nat.mul_one, factsP_bun, ptb_bun, ptb_fam, factsP_fam, factsP_errA, ptb_errA, upd_errA, itCells] at cs
                  go_wp2_with fail
                  go_roundw
                  case rel => exact ⟨i + 1, by omega, by go_num, O⟩
                  case measure => simp [intOf]; omega
            · obtain rfl : i = n := by omega
              skip
              have cs := O.facts
              try simp only [factsP, cellsP, roomP, foots_cons, foots_nil, foots_append, foot_pt, ptb, ptb_mapA, foot_mapA, factsP_mapA, foot_bun, List.append_nil, List.nil_append, List.cons_append, List.nodup_cons, List.nodup_nil, List.mem_cons, List.not_mem_nil, List.mem_singleton, List.forall_mem_cons, not_or, not_false_eq_true, and_true, true_and, or_false, false_or, forall_eq_or_imp, forall_eq, implies_true, Nat.zero_add, Nat.reduceAdd, and_assoc, upd_listA, upd_mapA, upd_bun, upd_fam, upd_datasA, ptb_datasA, factsP_datasA, ptb_listA, factsP_listA, factsP_mapA, ptb_mapA, Nat.mul_one, factsP_bun, ptb_bun, ptb_fam, factsP_fam, factsP_errA, ptb_errA, upd_errA, itCells] at cs
              go_wp2_with fail
              go_ret
              exact ⟨rfl, O.fr.below rfl⟩
end Go.Proofs.Ytomcekjhehceoaa
