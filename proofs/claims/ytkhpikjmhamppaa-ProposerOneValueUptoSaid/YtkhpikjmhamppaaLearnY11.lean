/- WALK: a learner hears what an acceptor has accepted (Accepted): it comes to the plain function. -/
import Derived.Test.YtkhpikjmhamppaaLearn11
set_option linter.unusedVariables false
set_option linter.unusedSimpArgs false
namespace Go.Proofs.Ytkhpikjmhamppaa
open Go.RowKit Go.Tk

theorem look_said {W : World} {mb : Nat} {m : List (Int × Said)} (h : MapAt intK Said.val W mb m) {f : Int} (hk : intK.ok f) : (Instr.lookup 89 (.map (some mb)) (.int .i64 f) true).run Try.prog W = .ok (.tuple #[((mget m f).getD zeroSaid).val, .bool (mget m f).isSome]) W := by
  have := h.lookup Try.underlying89 zeroSaid_run hk true
  simp only [if_true] at this
  rw [show intK.kv f = .int .i64 f from rfl] at this
  rw [this]
  cases mget m f <;> rfl
set_option maxRecDepth 100000 in
set_option maxHeartbeats 16000000 in
theorem learn_Accepted_yes (w : World) (lb mb : Nat) (l : Learn11) (f : Int) (b : Ballot) (v : ByteArray) (h : Pre w (learnL lb mb l)) (h0 : l.is = false) (h1 : 0 ≤ f) (h2 : f < l.n) (h3 : l.n ≤ 9) (hsz : l.said.length ≤ 9) :
    Calls Try.prog 15 #[.pointer (some ⟨lb, 0, none⟩), .int .i64 f, b.val, .string v] w (fun e w' => e = .returned (.tuple #[.string (accepted11 l f b v).1, .bool (accepted11 l f b v).2.1]) ∧ Mem w (foots (learnL lb mb l)) w' (learnL lb mb (accepted11 l f b v).2.2)) := by
  obtain ⟨fp, hfp⟩ : ∃ F, F = foots (learnL lb mb l) := ⟨_, rfl⟩
  have O : Mem w fp w (learnL lb mb l) := by rw [hfp]; exact h
  rw [← hfp]
  clear hfp h
  obtain ⟨n, said, chosen, is⟩ := l
  simp only at h0 h1 h2 h3 hsz
  subst h0
  obtain ⟨r, hr⟩ : ∃ r, r = accepted11 ⟨n, said, chosen, false⟩ f b v := ⟨_, rfl⟩
  rw [← hr]
  have hcond : ∀ st : Bool, (False ∨ f < 0 ∨ n ≤ f ∨ st = true) ↔ st = true := fun st => by
    constructor
    · rintro (h | h | h | h)
      · exact h.elim
      · omega
      · omega
      · exact h
    · exact fun h => .inr (.inr (.inr h))
  simp only [accepted11, Bool.false_eq_true, hcond] at hr
  clear hcond
  have hk : intK.ok f := okSmall h1 (by omega)
  have HK := Lib.hid hk
  have HR := Lib.hid hr
  clear hk hr
  have hst : stale11 said f b = ((mget said f).isSome && !less ((mget said f).getD zeroSaid).b b) := by
    unfold stale11
    cases mget said f <;> rfl
  obtain ⟨kn, hkn⟩ : ∃ k, k = (mget said f).isSome := ⟨_, rfl⟩
  obtain ⟨⟨⟨sr, sn⟩, sv⟩, hs⟩ : ∃ s, s = (mget said f).getD zeroSaid := ⟨_, rfl⟩
  rw [← hkn, ← hs] at hst
  generalize hls : less ⟨sr, sn⟩ b = ls at hst
  have LK := Lib.hid (fun W (hW : MapAt intK Said.val W mb said) => by have := look_said hW HK.out; rw [← hkn, ← hs] at this; exact this)
  have LE := Lib.hid hls
  have ST := Lib.hid hst
  clear hkn hs hls hst
  have CL := Lib.hid (fun W => mLess ⟨sr, sn⟩ b W)
  rw [LE.out] at CL
  obtain ⟨br, bn⟩ := b
  simp only [Ballot.val, Said.val] at LK CL ⊢
  simp only [learnL, Learn11.cells] at O
  have h2b : decide (f < 0) = false := by simp; omega
  have h3b : decide (n ≤ f) = false := by simp; omega
  go_enter Try.func15, Try.ntmps15
  have cs := O.facts
  simp only [factsP, cellsP, roomP, foots_cons, foots_nil, foots_append, foot_pt, ptb, ptb_mapA, foot_mapA, factsP_mapA, foot_bun, List.append_nil, List.nil_append, List.cons_append, List.nodup_cons, List.nodup_nil, List.mem_cons, List.not_mem_nil, List.mem_singleton, List.forall_mem_cons, not_or, not_false_eq_true, and_true, true_and, or_false, false_or, forall_eq_or_imp, forall_eq, implies_true, Nat.zero_add, Nat.reduceAdd, and_assoc, Learn11.cells, learnL, ptb_iterA, factsP_iterA] at cs
  go_upto_region 3 with fail
  first | apply Mem.atCall | apply Mem.atCode | apply Mem.atList
  case h => repeat' (first | (with_reducible exact O) | (with_reducible apply Mem.drew) | (with_reducible apply Mem.drewN) | (with_reducible apply Mem.ext) | (with_reducible apply Mem.alloc) | (with_reducible apply Mem.setCell) | (simp only [ptb, ptb_upd, foots_cons, List.mem_cons, World.size_alloc, size_ext, World.size_setCell, true_or, or_true, eq_self_iff_true]))
  case' k =>
    intro w1 O'
    (try clear O)
    have O := O'
    clear O'
    (first | simp only [sel, rst, List.cons_append, List.nil_append, World.size_alloc, size_ext, World.size_setCell, size_setMap, World.size_drew, size_drewN, upd, List.set_cons_zero, List.set_cons_succ, if_true, if_false, reduceIte, not_false_eq_true, ne_lt0, ne_lt1, ne_lt2, ne_lt3, ne_lt4, cs] at O | simp only [sel, rst, List.cons_append, List.nil_append, World.size_alloc, size_ext, World.size_setCell, size_setMap, World.size_drew, size_drewN, upd, List.set_cons_zero, List.set_cons_succ, if_true, if_false, reduceIte, not_false_eq_true, ne_lt0, ne_lt1, ne_lt2, ne_lt3, ne_lt4] at O | skip)
    (try clear cs)
    (try clear v1)
    (try clear v2)
    (try clear v3)
  have hlk := LK.out _ (O.map (κ := intK) (vv := Said.val) (b := mb) (m := said) (by simp))
  go_cut [10, 11] (fun s10 s11 wc => ∃ q, s10 = .pointer (some ⟨q, 0, none⟩) ∧ s11 = .bool kn ∧ Mem w fp wc [.pt q [.int .u32 sr, .int .u8 sn, .string sv] 93, .pt w.heap.size [.int .u32 br, .int .u8 bn] 31, .pt lb [.int .i64 n, .map (some mb), .string chosen, .bool false] 91, mapA intK Said.val mb said])
  case first =>
    have cs := O.facts
    simp only [factsP, cellsP, roomP, foots_cons, foots_nil, foots_append, foot_pt, ptb, ptb_mapA, foot_mapA, factsP_mapA, foot_bun, List.append_nil, List.nil_append, List.cons_append, List.nodup_cons, List.nodup_nil, List.mem_cons, List.not_mem_nil, List.mem_singleton, List.forall_mem_cons, not_or, not_false_eq_true, and_true, true_and, or_false, false_or, forall_eq_or_imp, forall_eq, implies_true, Nat.zero_add, Nat.reduceAdd, and_assoc, Learn11.cells, learnL, ptb_iterA, factsP_iterA] at cs
    go_wp2_with fail
    go_meet
    refine ⟨_, rfl, rfl, ?_⟩
    repeat' (first | (with_reducible exact O) | (with_reducible apply Mem.drew) | (with_reducible apply Mem.drewN) | (with_reducible apply Mem.ext) | (with_reducible apply Mem.alloc) | (with_reducible apply Mem.setCell) | (simp only [ptb, ptb_upd, foots_cons, List.mem_cons, World.size_alloc, size_ext, World.size_setCell, true_or, or_true, eq_self_iff_true]))
  case rest =>
    clear O hlk
    obtain ⟨q, rfl, rfl, O⟩ := hcut
    by_cases hstale : (kn && !ls) = true
    · rw [Bool.and_eq_true] at hstale
      obtain ⟨rfl, hl2⟩ := hstale
      have hl3 : ls = false := by simpa using hl2
      subst hl3
      have hr := HR.out
      rw [ST.out] at hr
      simp only [Bool.not_false, Bool.and_self, if_true] at hr
      subst hr
      clear hl2
      have cs := O.facts
      simp only [factsP, cellsP, roomP, foots_cons, foots_nil, foots_append, foot_pt, ptb, ptb_mapA, foot_mapA, factsP_mapA, foot_bun, List.append_nil, List.nil_append, List.cons_append, List.nodup_cons, List.nodup_nil, List.mem_cons, List.not_mem_nil, List.mem_singleton, List.forall_mem_cons, not_or, not_false_eq_true, and_true, true_and, or_false, false_or, forall_eq_or_imp, forall_eq, implies_true, Nat.zero_add, Nat.reduceAdd, and_assoc, Learn11.cells, learnL, ptb_iterA, factsP_iterA] at cs
      go_wp2_with fail
      first | apply Mem.atCall | apply Mem.atCode | apply Mem.atList
      case h => repeat' (first | (with_reducible exact O) | (with_reducible apply Mem.drew) | (with_reducible apply Mem.drewN) | (with_reducible apply Mem.ext) | (with_reducible apply Mem.alloc) | (with_reducible apply Mem.setCell) | (simp only [ptb, ptb_upd, foots_cons, List.mem_cons, World.size_alloc, size_ext, World.size_setCell, true_or, or_true, eq_self_iff_true]))
      case' k =>
        intro w3 O'
        (try clear O)
        have O := O'
        clear O'
        (first | simp only [sel, rst, List.cons_append, List.nil_append, World.size_alloc, size_ext, World.size_setCell, size_setMap, World.size_drew, size_drewN, upd, List.set_cons_zero, List.set_cons_succ, if_true, if_false, reduceIte, not_false_eq_true, ne_lt0, ne_lt1, ne_lt2, ne_lt3, ne_lt4, cs] at O | simp only [sel, rst, List.cons_append, List.nil_append, World.size_alloc, size_ext, World.size_setCell, size_setMap, World.size_drew, size_drewN, upd, List.set_cons_zero, List.set_cons_succ, if_true, if_false, reduceIte, not_false_eq_true, ne_lt0, ne_lt1, ne_lt2, ne_lt3, ne_lt4] at O | skip)
        (try clear cs)
        (try clear v1)
        (try clear v2)
        (try clear v3)
      refine (CL.out _).mono ?_
      rintro e w4 ⟨rfl, o⟩
      replace O := O.callp [] o
      clear o
      simp only [put, List.cons_append, List.nil_append] at O
      have cs := O.facts
      simp only [factsP, cellsP, roomP, foots_cons, foots_nil, foots_append, foot_pt, ptb, ptb_mapA, foot_mapA, factsP_mapA, foot_bun, List.append_nil, List.nil_append, List.cons_append, List.nodup_cons, List.nodup_nil, List.mem_cons, List.not_mem_nil, List.mem_singleton, List.forall_mem_cons, not_or, not_false_eq_true, and_true, true_and, or_false, false_or, forall_eq_or_imp, forall_eq, implies_true, Nat.zero_add, Nat.reduceAdd, and_assoc, Learn11.cells, learnL, ptb_iterA, factsP_iterA] at cs
      go_wp2_with fail
      go_ret2
      refine ⟨rfl, O.sel [false, false, true, true]⟩
    · have hnst : stale11 said f ⟨br, bn⟩ = false := by rw [ST.out]; simpa using hstale
      have hr := HR.out
      rw [hnst] at hr
      simp only [Bool.false_eq_true, if_false] at hr
      have HR2 := Lib.hid hr
      obtain ⟨said2, hs2⟩ : ∃ x, x = mset said f ⟨⟨br, bn⟩, v⟩ := ⟨_, rfl⟩
      rw [← hs2] at HR2
      have HS2 := Lib.hid hs2
      clear hr HR hnst ST hs2
      have hl2 : said2.length ≤ 10 := by
        rw [HS2.out, mset_len]
        split <;> omega
      have cs := O.facts
      simp only [factsP, cellsP, roomP, foots_cons, foots_nil, foots_append, foot_pt, ptb, ptb_mapA, foot_mapA, factsP_mapA, foot_bun, List.append_nil, List.nil_append, List.cons_append, List.nodup_cons, List.nodup_nil, List.mem_cons, List.not_mem_nil, List.mem_singleton, List.forall_mem_cons, not_or, not_false_eq_true, and_true, true_and, or_false, false_or, forall_eq_or_imp, forall_eq, implies_true, Nat.zero_add, Nat.reduceAdd, and_assoc, Learn11.cells, learnL, ptb_iterA, factsP_iterA] at cs
      go_upto_region 4 with fail
      go_cut [52] (fun s52 wc => s52 = .bool false ∧ Mem w fp wc [.pt q [.int .u32 sr, .int .u8 sn, .string sv] 93, .pt w.heap.size [.int .u32 br, .int .u8 bn] 31, .pt lb [.int .i64 n, .map (some mb), .string chosen, .bool false] 91, mapA intK Said.val mb said])
      case first =>
        cases kn
        · go_wp2_with fail
          go_meet
          exact ⟨rfl, O⟩
        · have hl3 : ls = true := by simpa using hstale
          subst hl3
          go_wp2_with fail
          first | apply Mem.atCall | apply Mem.atCode | apply Mem.atList
          case h => repeat' (first | (with_reducible exact O) | (with_reducible apply Mem.drew) | (with_reducible apply Mem.drewN) | (with_reducible apply Mem.ext) | (with_reducible apply Mem.alloc) | (with_reducible apply Mem.setCell) | (simp only [ptb, ptb_upd, foots_cons, List.mem_cons, World.size_alloc, size_ext, World.size_setCell, true_or, or_true, eq_self_iff_true]))
          case' k =>
            intro w3 O'
            (try clear O)
            have O := O'
            clear O'
            (first | simp only [sel, rst, List.cons_append, List.nil_append, World.size_alloc, size_ext, World.size_setCell, size_setMap, World.size_drew, size_drewN, upd, List.set_cons_zero, List.set_cons_succ, if_true, if_false, reduceIte, not_false_eq_true, ne_lt0, ne_lt1, ne_lt2, ne_lt3, ne_lt4, cs] at O | simp only [sel, rst, List.cons_append, List.nil_append, World.size_alloc, size_ext, World.size_setCell, size_setMap, World.size_drew, size_drewN, upd, List.set_cons_zero, List.set_cons_succ, if_true, if_false, reduceIte, not_false_eq_true, ne_lt0, ne_lt1, ne_lt2, ne_lt3, ne_lt4] at O | skip)
            (try clear cs)
            (try clear v1)
            (try clear v2)
            (try clear v3)
          refine (CL.out _).mono ?_
          rintro e w4 ⟨rfl, o⟩
          replace O := O.callp [] o
          clear o
          simp only [put, List.cons_append, List.nil_append] at O
          have cs := O.facts
          simp only [factsP, cellsP, roomP, foots_cons, foots_nil, foots_append, foot_pt, ptb, ptb_mapA, foot_mapA, factsP_mapA, foot_bun, List.append_nil, List.nil_append, List.cons_append, List.nodup_cons, List.nodup_nil, List.mem_cons, List.not_mem_nil, List.mem_singleton, List.forall_mem_cons, not_or, not_false_eq_true, and_true, true_and, or_false, false_or, forall_eq_or_imp, forall_eq, implies_true, Nat.zero_add, Nat.reduceAdd, and_assoc, Learn11.cells, learnL, ptb_iterA, factsP_iterA] at cs
          go_wp2_with fail
          go_meet
          exact ⟨rfl, O⟩
      case rest =>
        clear O cs hstale
        obtain ⟨rfl, O⟩ := hcut
        have cs := O.facts
        simp only [factsP, cellsP, roomP, foots_cons, foots_nil, foots_append, foot_pt, ptb, ptb_mapA, foot_mapA, factsP_mapA, foot_bun, List.append_nil, List.nil_append, List.cons_append, List.nodup_cons, List.nodup_nil, List.mem_cons, List.not_mem_nil, List.mem_singleton, List.forall_mem_cons, not_or, not_false_eq_true, and_true, true_and, or_false, false_or, forall_eq_or_imp, forall_eq, implies_true, Nat.zero_add, Nat.reduceAdd, and_assoc, Learn11.cells, learnL, ptb_iterA, factsP_iterA] at cs
        go_upto_region 7 with fail
        apply region_last_mem (by kernel_rfl) (by kernel_rfl)
        case O => repeat' (first | (with_reducible exact O) | (with_reducible apply Mem.drew) | (with_reducible apply Mem.drewN) | (with_reducible apply Mem.ext) | (with_reducible apply Mem.alloc) | (with_reducible apply Mem.setCell) | (simp only [ptb, ptb_upd, foots_cons, List.mem_cons, World.size_alloc, size_ext, World.size_setCell, true_or, or_true, eq_self_iff_true]))
        case' h =>
          intro w5 O'
          (try clear O)
          have O := O'
          clear O'
          (first | simp only [sel, rst, List.cons_append, List.nil_append, World.size_alloc, size_ext, World.size_setCell, size_setMap, World.size_drew, size_drewN, upd, List.set_cons_zero, List.set_cons_succ, if_true, if_false, reduceIte, not_false_eq_true, ne_lt0, ne_lt1, ne_lt2, ne_lt3, ne_lt4, cs] at O | simp only [sel, rst, List.cons_append, List.nil_append, World.size_alloc, size_ext, World.size_setCell, size_setMap, World.size_drew, size_drewN, upd, List.set_cons_zero, List.set_cons_succ, if_true, if_false, reduceIte, not_false_eq_true, ne_lt0, ne_lt1, ne_lt2, ne_lt3, ne_lt4] at O | skip)
          (try clear cs)
          (try clear v1)
          (try clear v2)
          (try clear v3)
        simp only [List.length_cons, List.length_nil, Nat.reduceAdd, Nat.reduceSub, List.take_succ_cons, List.take_zero, List.drop_succ_cons, List.drop_zero]
        have cs := O.facts
        simp only [factsP, cellsP, roomP, foots_cons, foots_nil, foots_append, foot_pt, ptb, ptb_mapA, foot_mapA, factsP_mapA, foot_bun, List.append_nil, List.nil_append, List.cons_append, List.nodup_cons, List.nodup_nil, List.mem_cons, List.not_mem_nil, List.mem_singleton, List.forall_mem_cons, not_or, not_false_eq_true, and_true, true_and, or_false, false_or, forall_eq_or_imp, forall_eq, implies_true, Nat.zero_add, Nat.reduceAdd, and_assoc, Learn11.cells, learnL, ptb_iterA, factsP_iterA] at cs
        repeat still_step
        refine wpStill_nil ?_
        go_upto_region 9 with ((at_mapUpdate; refine wpList_mapUpdate_mem (O.front1 [false, false, false, false, true] rfl) rfl _ _ _ _ rfl Try.underlying89 rfl f HK.out ⟨⟨br, bn⟩, v⟩ rfl rfl ?_; intro w6 O6))
        (try clear cs)
        (try clear v1)
        (try clear v2)
        (try clear v3)
        replace O := O6.unfront
        clear O6
        simp only [put, List.cons_append, List.nil_append] at O
        rw [← HS2.out] at O
        have hb : wc.heap.size = wc.heap.size := rfl
        generalize wc.heap.size = nb at O ⊢
        have cs := O.facts
        simp only [factsP, cellsP, roomP, foots_cons, foots_nil, foots_append, foot_pt, ptb, ptb_mapA, foot_mapA, factsP_mapA, foot_bun, List.append_nil, List.nil_append, List.cons_append, List.nodup_cons, List.nodup_nil, List.mem_cons, List.not_mem_nil, List.mem_singleton, List.forall_mem_cons, not_or, not_false_eq_true, and_true, true_and, or_false, false_or, forall_eq_or_imp, forall_eq, implies_true, Nat.zero_add, Nat.reduceAdd, and_assoc, Learn11.cells, learnL, ptb_iterA, factsP_iterA] at cs
        go_wp2_with ((at_range; refine wpList_range_mem (O.front1 [false, false, false, false, true] rfl) rfl _ _ rfl Try.underlying89 rfl ?_; intro r w7 O7))
        clear cs hb
        replace O := O7.unfront
        clear O7
        simp only [put, List.cons_append, List.nil_append] at O
        try go_frame
        go_loopw [13] (fun s13 wr => ∃ (left : List (Int × Said)) (cur : Option (Int × Said)) (same : Nat), s13 = .int .i64 same ∧ same + told11 left ⟨⟨br, bn⟩, v⟩ = told11 said2 ⟨⟨br, bn⟩, v⟩ ∧ same + left.length ≤ 10 ∧
          Mem w fp wr [.pt nb [.int .u32 br, .int .u8 bn, .string v] 93, .pt lb [.int .i64 n, .map (some mb), .string chosen, .bool false] 91, iterA intK Said.val mb said2 r left cur]) (fun s13 wr => iterLeft r wr)
        case atStart =>
          exact ⟨said2, none, 0, rfl, by omega, by omega, O.sel [true, false, false, true, true]⟩
        case round =>
          clear O
          obtain ⟨left, cur, same, rfl, hsm, hln, O⟩ := hrel
          by_cases hz : left = []
          · subst hz
            have hsm2 : told11 said2 ⟨⟨br, bn⟩, v⟩ = same := by simp [told11] at hsm; unfold told11; omega
            have hr := HR2.out
            rw [hsm2] at hr
            by_cases hq : (same : Int) ≤ n / 2
            · simp only [hq, if_true] at hr
              subst hr
              have cs := O.facts
              simp only [factsP, cellsP, roomP, foots_cons, foots_nil, foots_append, foot_pt, ptb, ptb_mapA, foot_mapA, factsP_mapA, foot_bun, List.append_nil, List.nil_append, List.cons_append, List.nodup_cons, List.nodup_nil, List.mem_cons, List.not_mem_nil, List.mem_singleton, List.forall_mem_cons, not_or, not_false_eq_true, and_true, true_and, or_false, false_or, forall_eq_or_imp, forall_eq, implies_true, Nat.zero_add, Nat.reduceAdd, and_assoc, Learn11.cells, learnL, ptb_iterA, factsP_iterA] at cs
              go_wp2_with ((at_next; refine wpList_next_mem (O.front1 [false, false, true] rfl) rfl _ rfl rfl (fun _ => ?_) (fun i k x w8 hi O8 => absurd hi (by simp))))
              go_ret2
              refine ⟨rfl, ?_⟩
              have O9 := (O.front1 [false, false, true] rfl).rangeEnd
              exact (O9.sel [true, false, true]).swap
            · simp only [hq, if_false] at hr
              subst hr
              have cs := O.facts
              simp only [factsP, cellsP, roomP, foots_cons, foots_nil, foots_append, foot_pt, ptb, ptb_mapA, foot_mapA, factsP_mapA, foot_bun, List.append_nil, List.nil_append, List.cons_append, List.nodup_cons, List.nodup_nil, List.mem_cons, List.not_mem_nil, List.mem_singleton, List.forall_mem_cons, not_or, not_false_eq_true, and_true, true_and, or_false, false_or, forall_eq_or_imp, forall_eq, implies_true, Nat.zero_add, Nat.reduceAdd, and_assoc, Learn11.cells, learnL, ptb_iterA, factsP_iterA] at cs
              go_wp2_with ((at_next; refine wpList_next_mem (O.front1 [false, false, true] rfl) rfl _ rfl rfl (fun _ => ?_) (fun i k x w8 hi O8 => absurd hi (by simp))))
              go_ret2
              refine ⟨rfl, ?_⟩
              have O9 := ((O.front1 [false, false, true] rfl).rangeEnd.sel [true, false, true]).swap
              exact ((O9.set_at (j := 2) (v := .string v) []).set_at (j := 3) (v := .bool true) [])
          · have hit := iterLeft_of (O.hold (iterA intK Said.val mb said2 r left cur) (by simp))
            have cs := O.facts
            simp only [factsP, cellsP, roomP, foots_cons, foots_nil, foots_append, foot_pt, ptb, ptb_mapA, foot_mapA, factsP_mapA, foot_bun, List.append_nil, List.nil_append, List.cons_append, List.nodup_cons, List.nodup_nil, List.mem_cons, List.not_mem_nil, List.mem_singleton, List.forall_mem_cons, not_or, not_false_eq_true, and_true, true_and, or_false, false_or, forall_eq_or_imp, forall_eq, implies_true, Nat.zero_add, Nat.reduceAdd, and_assoc, Learn11.cells, learnL, ptb_iterA, factsP_iterA] at cs
            go_upto_region 11 with ((at_next; refine wpList_next_mem (O.front1 [false, false, true] rfl) rfl _ rfl rfl (fun h => absurd h hz) (fun i k x w8 hi O8 => ?_)))
            clear O cs
            replace O := O8.unfront
            clear O8
            simp only [put, List.cons_append, List.nil_append] at O
            have hcnt := count_erase (fun p : Int × Said => p.2.same ⟨⟨br, bn⟩, v⟩) left i (k, x) hi
            have hlen : (left.eraseIdx i).length + 1 = left.length := by
              rw [List.length_eraseIdx_of_lt (List.getElem?_eq_some_iff.1 hi).1]
              have := (List.getElem?_eq_some_iff.1 hi).1
              omega
            obtain ⟨⟨xr, xn⟩, xv⟩ := x
            have HIT := Lib.hid hit
            have HSM := Lib.hid hsm
            have HCN := Lib.hid hcnt
            clear hit hsm hcnt hi hz
            have cs := O.facts
            simp only [factsP, cellsP, roomP, foots_cons, foots_nil, foots_append, foot_pt, ptb, ptb_mapA, foot_mapA, factsP_mapA, foot_bun, List.append_nil, List.nil_append, List.cons_append, List.nodup_cons, List.nodup_nil, List.mem_cons, List.not_mem_nil, List.mem_singleton, List.forall_mem_cons, not_or, not_false_eq_true, and_true, true_and, or_false, false_or, forall_eq_or_imp, forall_eq, implies_true, Nat.zero_add, Nat.reduceAdd, and_assoc, Learn11.cells, learnL, ptb_iterA, factsP_iterA] at cs
            go_upto_region 12 with ((refine wpList_entry_mem (O.front1 [false, false, true] rfl) rfl _ rfl rfl ?_; simp only [Said.val]))
            first | apply Mem.atCall | apply Mem.atCode | apply Mem.atList
            case h => repeat' (first | (with_reducible exact O) | (with_reducible apply Mem.drew) | (with_reducible apply Mem.drewN) | (with_reducible apply Mem.ext) | (with_reducible apply Mem.alloc) | (with_reducible apply Mem.setCell) | (simp only [ptb, ptb_upd, foots_cons, List.mem_cons, World.size_alloc, size_ext, World.size_setCell, true_or, or_true, eq_self_iff_true]))
            case' k =>
              intro w9 O'
              (try clear O)
              have O := O'
              clear O'
              (first | simp only [sel, rst, List.cons_append, List.nil_append, World.size_alloc, size_ext, World.size_setCell, size_setMap, World.size_drew, size_drewN, upd, List.set_cons_zero, List.set_cons_succ, if_true, if_false, reduceIte, not_false_eq_true, ne_lt0, ne_lt1, ne_lt2, ne_lt3, ne_lt4, cs] at O | simp only [sel, rst, List.cons_append, List.nil_append, World.size_alloc, size_ext, World.size_setCell, size_setMap, World.size_drew, size_drewN, upd, List.set_cons_zero, List.set_cons_succ, if_true, if_false, reduceIte, not_false_eq_true, ne_lt0, ne_lt1, ne_lt2, ne_lt3, ne_lt4] at O | skip)
              (try clear cs)
              (try clear v1)
              (try clear v2)
              (try clear v3)
            have hit9 := iterLeft_of (O.hold (iterA intK Said.val mb said2 r (left.eraseIdx i) (some (k, ⟨⟨xr, xn⟩, xv⟩))) (by simp))
            have HIT9 := Lib.hid hit9
            clear hit9
            have hs10 : same ≤ 10 := by omega
            have hc : ¬ xr = br ∨ (xr = br ∧ ¬ xn = bn) ∨ (xr = br ∧ xn = bn ∧ ¬ xv.toList = v.toList) ∨ (xr = br ∧ xn = bn ∧ xv.toList = v.toList) := by
              by_cases e1 : xr = br <;> by_cases e2 : xn = bn <;> by_cases e3 : xv.toList = v.toList <;> simp [e1, e2, e3]
            by_cases hall : xr = br ∧ xn = bn ∧ xv.toList = v.toList
            · obtain ⟨rfl, rfl, hxv⟩ := hall
              clear hc
              have hsame : (Said.mk ⟨xr, xn⟩ xv).same ⟨⟨xr, xn⟩, v⟩ = true := by simp [Said.same, hxv]
              have HSA := Lib.hid hsame
              clear hsame
              have cs := O.facts
              simp only [factsP, cellsP, roomP, foots_cons, foots_nil, foots_append, foot_pt, ptb, ptb_mapA, foot_mapA, factsP_mapA, foot_bun, List.append_nil, List.nil_append, List.cons_append, List.nodup_cons, List.nodup_nil, List.mem_cons, List.not_mem_nil, List.mem_singleton, List.forall_mem_cons, not_or, not_false_eq_true, and_true, true_and, or_false, false_or, forall_eq_or_imp, forall_eq, implies_true, Nat.zero_add, Nat.reduceAdd, and_assoc, Learn11.cells, learnL, ptb_iterA, factsP_iterA] at cs
              go_wp2_with fail
              go_roundw
              case rel =>
                refine ⟨left.eraseIdx i, _, same + 1, by go_num, ?_, by omega, O.sel [false, true, true, true]⟩
                have h1 := HSM.out
                have h2 := HCN.out
                unfold told11 at h1 ⊢
                rw [h2, HSA.out] at h1
                simp only [if_true] at h1
                omega
              case measure =>
                rw [HIT9.out, HIT.out]
                omega
            · have hsame : (Said.mk ⟨xr, xn⟩ xv).same ⟨⟨br, bn⟩, v⟩ = false := by simp only [Said.same, decide_eq_false_iff_not]; exact hall
              have HSA := Lib.hid hsame
              clear hsame
              rcases hc with h5 | ⟨rfl, h5⟩ | ⟨rfl, rfl, h5⟩ | h5
              case inr.inr.inr => exact absurd h5 hall
              all_goals
                clear hall
                have cs := O.facts
                simp only [factsP, cellsP, roomP, foots_cons, foots_nil, foots_append, foot_pt, ptb, ptb_mapA, foot_mapA, factsP_mapA, foot_bun, List.append_nil, List.nil_append, List.cons_append, List.nodup_cons, List.nodup_nil, List.mem_cons, List.not_mem_nil, List.mem_singleton, List.forall_mem_cons, not_or, not_false_eq_true, and_true, true_and, or_false, false_or, forall_eq_or_imp, forall_eq, implies_true, Nat.zero_add, Nat.reduceAdd, and_assoc, Learn11.cells, learnL, ptb_iterA, factsP_iterA] at cs
                go_wp2_with fail
                go_roundw
                case rel =>
                  refine ⟨left.eraseIdx i, _, same, rfl, ?_, by omega, O.sel [false, true, true, true]⟩
                  have h1 := HSM.out
                  have h2 := HCN.out
                  unfold told11 at h1 ⊢
                  rw [h2, HSA.out] at h1
                  simp only [Bool.false_eq_true, if_false] at h1
                  omega
                case measure =>
                  rw [HIT9.out, HIT.out]
                  omega
end Go.Proofs.Ytkhpikjmhamppaa
