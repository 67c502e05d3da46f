/- WALKS: a detector (Watch, Suspects). -/
import Derived.Test.YtobiodbdnpcanaaDet09
set_option linter.unusedVariables false
set_option linter.unusedSimpArgs false
namespace Go.Proofs.Ytobiodbdnpcanaa
open Go.RowKit Go.Tk
def watch9 (g : Int) (m : List (Int × Peer)) (id now : Int) : Int × List (Int × Peer) :=
  if id < 0 ∨ 255 < id ∨ timeOk now = false then (1, m) else match mget m id with
  | some _ => (0, m)
  | none => if m.length = 12 then (91, m) else (0, mset m id ⟨now, 0, g, false⟩)
theorem call0 {w w' : World} {l : List Asn} (h : Pre w l) (hm : Mem w [] w' []) : Mem w (foots l) w' l := by
  have := h.call [] hm
  simpa [Tk.sel, rst] using this
set_option maxRecDepth 100000 in
set_option maxHeartbeats 8000000 in
theorem d_Watch (w : World) (db mb : Nat) (g : Int) (m : List (Int × Peer)) (h : Pre w (detL db mb g m)) (id now : Int) (hid : -9223372036854775808 ≤ id ∧ id ≤ 9223372036854775807) :
    Calls Try.prog 9 #[.pointer (some ⟨db, 0, none⟩), .int .i64 id, .int .i64 now] w (fun e w' => e = .returned (.int .i64 (watch9 g m id now).1) ∧ Mem w (foots (detL db mb g m)) w' (detL db mb g (watch9 g m id now).2)) := by
  have hk := okInt hid
  have CT := Lib.hid (fun W => d_time now W)
  have HM0 : MapAt intK Peer.val w mb m := Mem.map (κ := intK) (vv := Peer.val) h (by simp [detL])
  have LK := Lib.hid (fun W (hW : MapAt intK Peer.val W mb m) => look_peer hW hk)
  have HK := Lib.hid hk
  obtain ⟨fp, hfp⟩ : ∃ F, F = foots (detL db mb g m) := ⟨_, rfl⟩
  have O : Mem w fp w (detL db mb g m) := by rw [hfp]; exact h
  have HFP := Lib.hid hfp
  rw [← hfp]
  clear hfp h hk HM0
  obtain ⟨r, hr⟩ : ∃ r, r = watch9 g m id now := ⟨_, rfl⟩
  rw [← hr]
  unfold watch9 at hr
  simp only [detL] at O ⊢
  clear hid
  generalize timeOk now = tm at CT hr
  by_cases h1 : id < 0
  · rw [if_pos (.inl h1)] at hr
    subst hr
    clear CT LK HK
    skip
    go_enter Try.func9, Try.ntmps9
    have cs := O.facts
    simp only [factsP, cellsP, roomP, foots_cons, foots_nil, foots_append, foot_pt, ptb, ptb_mapA, foot_mapA, factsP_mapA, foot_bun, List.append_nil, List.nil_append, List.cons_append, List.nodup_cons, List.nodup_nil, List.mem_cons, List.not_mem_nil, List.mem_singleton, List.forall_mem_cons, not_or, not_false_eq_true, and_true, true_and, or_false, false_or, forall_eq_or_imp, forall_eq, implies_true, Nat.zero_add, Nat.reduceAdd, and_assoc, factsP_mapA, ptb_mapA, ptb_listA, factsP_listA, Nat.mul_one, intCells] at cs
    go_wp2_with fail
    go_ret
    exact ⟨rfl, O⟩
  · have h1' : decide (id < 0) = false := by simpa using h1
    by_cases h2 : 255 < id
    · rw [if_pos (.inr (.inl h2))] at hr
      subst hr
      have h2' : decide (255 < id) = true := by simpa using h2
      clear CT LK HK h1 h2
      skip
      go_enter Try.func9, Try.ntmps9
      have cs := O.facts
      simp only [factsP, cellsP, roomP, foots_cons, foots_nil, foots_append, foot_pt, ptb, ptb_mapA, foot_mapA, factsP_mapA, foot_bun, List.append_nil, List.nil_append, List.cons_append, List.nodup_cons, List.nodup_nil, List.mem_cons, List.not_mem_nil, List.mem_singleton, List.forall_mem_cons, not_or, not_false_eq_true, and_true, true_and, or_false, false_or, forall_eq_or_imp, forall_eq, implies_true, Nat.zero_add, Nat.reduceAdd, and_assoc, factsP_mapA, ptb_mapA, ptb_listA, factsP_listA, Nat.mul_one, intCells] at cs
      go_wp2_with fail
      go_ret
      exact ⟨rfl, O⟩
    · have h2' : decide (255 < id) = false := by simpa using h2
      cases tm
      · rw [if_pos (.inr (.inr rfl))] at hr
        subst hr
        clear LK HK h1 h2
        skip
        go_enter Try.func9, Try.ntmps9
        have cs := O.facts
        simp only [factsP, cellsP, roomP, foots_cons, foots_nil, foots_append, foot_pt, ptb, ptb_mapA, foot_mapA, factsP_mapA, foot_bun, List.append_nil, List.nil_append, List.cons_append, List.nodup_cons, List.nodup_nil, List.mem_cons, List.not_mem_nil, List.mem_singleton, List.forall_mem_cons, not_or, not_false_eq_true, and_true, true_and, or_false, false_or, forall_eq_or_imp, forall_eq, implies_true, Nat.zero_add, Nat.reduceAdd, and_assoc, factsP_mapA, ptb_mapA, ptb_listA, factsP_listA, Nat.mul_one, intCells] at cs
        go_wp2_with fail
        first | apply Mem.atCall | apply Mem.atCode | apply Mem.atList
        case h => repeat' (first | (with_reducible exact O) | (with_reducible apply Mem.drew) | (with_reducible apply Mem.drewN) | (with_reducible apply Mem.ext) | (with_reducible apply Mem.alloc) | (with_reducible apply Mem.setCell) | (simp only [ptb, ptb_upd, foots_cons, List.mem_cons, World.size_alloc, size_ext, World.size_setCell, true_or, or_true, eq_self_iff_true, ptb_mapA, ptb_listA]))
        case' k =>
          intro w1 O'
          (try clear O)
          have O := O'
          clear O'
          (first | simp only [sel, rst, List.cons_append, List.nil_append, World.size_alloc, size_ext, World.size_setCell, size_setMap, World.size_drew, size_drewN, upd, List.set_cons_zero, List.set_cons_succ, if_true, if_false, reduceIte, not_false_eq_true, ne_lt0, ne_lt1, ne_lt2, ne_lt3, ne_lt4, cs] at O | simp only [sel, rst, List.cons_append, List.nil_append, World.size_alloc, size_ext, World.size_setCell, size_setMap, World.size_drew, size_drewN, upd, List.set_cons_zero, List.set_cons_succ, if_true, if_false, reduceIte, not_false_eq_true, ne_lt0, ne_lt1, ne_lt2, ne_lt3, ne_lt4] at O | skip)
          (try clear cs)
          (try clear v1)
          (try clear v2)
          (try clear v3)
        refine (CT.out _).mono ?_
        rintro e w2 ⟨rfl, o⟩
        replace O := O.callp [] o
        clear o
        simp only [put, List.cons_append, List.nil_append] at O
        have cs := O.facts
        simp only [factsP, cellsP, roomP, foots_cons, foots_nil, foots_append, foot_pt, ptb, ptb_mapA, foot_mapA, factsP_mapA, foot_bun, List.append_nil, List.nil_append, List.cons_append, List.nodup_cons, List.nodup_nil, List.mem_cons, List.not_mem_nil, List.mem_singleton, List.forall_mem_cons, not_or, not_false_eq_true, and_true, true_and, or_false, false_or, forall_eq_or_imp, forall_eq, implies_true, Nat.zero_add, Nat.reduceAdd, and_assoc, factsP_mapA, ptb_mapA, ptb_listA, factsP_listA, Nat.mul_one, intCells] at cs
        go_wp2_with fail
        go_ret
        exact ⟨rfl, O⟩
      · rw [if_neg (by simp [h1, h2])] at hr
        clear h1 h2
        cases hg : mget m id with
        | some p =>
          rw [hg] at hr LK
          simp only at hr
          subst hr
          obtain ⟨a, b, c, d⟩ := p
          simp only [Option.getD_some, Option.isSome_some, Peer.val] at LK
          clear hg HK
          skip
          go_enter Try.func9, Try.ntmps9
          have cs := O.facts
          simp only [factsP, cellsP, roomP, foots_cons, foots_nil, foots_append, foot_pt, ptb, ptb_mapA, foot_mapA, factsP_mapA, foot_bun, List.append_nil, List.nil_append, List.cons_append, List.nodup_cons, List.nodup_nil, List.mem_cons, List.not_mem_nil, List.mem_singleton, List.forall_mem_cons, not_or, not_false_eq_true, and_true, true_and, or_false, false_or, forall_eq_or_imp, forall_eq, implies_true, Nat.zero_add, Nat.reduceAdd, and_assoc, factsP_mapA, ptb_mapA, ptb_listA, factsP_listA, Nat.mul_one, intCells] at cs
          go_wp2_with fail
          first | apply Mem.atCall | apply Mem.atCode | apply Mem.atList
          case h => repeat' (first | (with_reducible exact O) | (with_reducible apply Mem.drew) | (with_reducible apply Mem.drewN) | (with_reducible apply Mem.ext) | (with_reducible apply Mem.alloc) | (with_reducible apply Mem.setCell) | (simp only [ptb, ptb_upd, foots_cons, List.mem_cons, World.size_alloc, size_ext, World.size_setCell, true_or, or_true, eq_self_iff_true, ptb_mapA, ptb_listA]))
          case' k =>
            intro w1 O'
            (try clear O)
            have O := O'
            clear O'
            (first | simp only [sel, rst, List.cons_append, List.nil_append, World.size_alloc, size_ext, World.size_setCell, size_setMap, World.size_drew, size_drewN, upd, List.set_cons_zero, List.set_cons_succ, if_true, if_false, reduceIte, not_false_eq_true, ne_lt0, ne_lt1, ne_lt2, ne_lt3, ne_lt4, cs] at O | simp only [sel, rst, List.cons_append, List.nil_append, World.size_alloc, size_ext, World.size_setCell, size_setMap, World.size_drew, size_drewN, upd, List.set_cons_zero, List.set_cons_succ, if_true, if_false, reduceIte, not_false_eq_true, ne_lt0, ne_lt1, ne_lt2, ne_lt3, ne_lt4] at O | skip)
            (try clear cs)
            (try clear v1)
            (try clear v2)
            (try clear v3)
          refine (CT.out _).mono ?_
          rintro e w2 ⟨rfl, o⟩
          replace O := O.callp [] o
          clear o
          simp only [put, List.cons_append, List.nil_append] at O
          skip
          have cs := O.facts
          simp only [factsP, cellsP, roomP, foots_cons, foots_nil, foots_append, foot_pt, ptb, ptb_mapA, foot_mapA, factsP_mapA, foot_bun, List.append_nil, List.nil_append, List.cons_append, List.nodup_cons, List.nodup_nil, List.mem_cons, List.not_mem_nil, List.mem_singleton, List.forall_mem_cons, not_or, not_false_eq_true, and_true, true_and, or_false, false_or, forall_eq_or_imp, forall_eq, implies_true, Nat.zero_add, Nat.reduceAdd, and_assoc, factsP_mapA, ptb_mapA, ptb_listA, factsP_listA, Nat.mul_one, intCells] at cs
          have v1 := (LK.out _ (O.map (κ := intK) (vv := Peer.val) (by simp)))
          try simp only [cellsQ, roomP, and_assoc, and_true, true_and, Nat.add_zero, Nat.zero_add, Nat.reduceAdd, factsP, cellsP, roomP, foots_cons, foots_nil, foots_append, foot_pt, ptb, ptb_mapA, foot_mapA, factsP_mapA, foot_bun, List.append_nil, List.nil_append, List.cons_append, List.nodup_cons, List.nodup_nil, List.mem_cons, List.not_mem_nil, List.mem_singleton, List.forall_mem_cons, not_or, not_false_eq_true, and_true, true_and, or_false, false_or, forall_eq_or_imp, forall_eq, implies_true, Nat.zero_add, Nat.reduceAdd, and_assoc, factsP_mapA, ptb_mapA, ptb_listA, factsP_listA, Nat.mul_one, intCells] at v1
          go_wp2_with fail
          go_ret
          refine ⟨rfl, ?_⟩
          apply Mem.to [false, true, true]
          · repeat' (first | (with_reducible exact O) | (with_reducible apply Mem.drew) | (with_reducible apply Mem.drewN) | (with_reducible apply Mem.ext) | (with_reducible apply Mem.alloc) | (with_reducible apply Mem.setCell) | (simp only [ptb, ptb_upd, foots_cons, List.mem_cons, World.size_alloc, size_ext, World.size_setCell, true_or, or_true, eq_self_iff_true, ptb_mapA, ptb_listA]))
          · first | with_reducible rfl | (simp only [sel, rst, List.cons_append, List.nil_append, World.size_alloc, size_ext, World.size_setCell, size_setMap, World.size_drew, size_drewN, upd, List.set_cons_zero, List.set_cons_succ, if_true, if_false, reduceIte, not_false_eq_true, ne_lt0, ne_lt1, ne_lt2, ne_lt3, ne_lt4, cs]; done) | (simp only [sel, rst, List.cons_append, List.nil_append, World.size_alloc, size_ext, World.size_setCell, size_setMap, World.size_drew, size_drewN, upd, List.set_cons_zero, List.set_cons_succ, if_true, if_false, reduceIte, not_false_eq_true, ne_lt0, ne_lt1, ne_lt2, ne_lt3, ne_lt4]; done) | (simp only [sel, rst, List.cons_append, List.nil_append, World.size_alloc, size_ext, World.size_setCell, size_setMap, World.size_drew, size_drewN, upd, List.set_cons_zero, List.set_cons_succ, if_true, if_false, reduceIte, not_false_eq_true, ne_lt0, ne_lt1, ne_lt2, ne_lt3, ne_lt4, cs]; rfl) | (simp only [sel, rst, List.cons_append, List.nil_append, World.size_alloc, size_ext, World.size_setCell, size_setMap, World.size_drew, size_drewN, upd, List.set_cons_zero, List.set_cons_succ, if_true, if_false, reduceIte, not_false_eq_true, ne_lt0, ne_lt1, ne_lt2, ne_lt3, ne_lt4]; rfl)
        | none =>
          rw [hg] at hr LK
          simp only at hr
          simp only [Option.getD_none, Option.isSome_none, Peer.val, noPeer] at LK
          clear hg
          by_cases h12 : m.length = 12
          · rw [if_pos h12] at hr
            subst hr
            have h12' : ((m.length : Int) == 12) = true := by simp; omega
            clear HK h12
            skip
            go_enter Try.func9, Try.ntmps9
            have cs := O.facts
            simp only [factsP, cellsP, roomP, foots_cons, foots_nil, foots_append, foot_pt, ptb, ptb_mapA, foot_mapA, factsP_mapA, foot_bun, List.append_nil, List.nil_append, List.cons_append, List.nodup_cons, List.nodup_nil, List.mem_cons, List.not_mem_nil, List.mem_singleton, List.forall_mem_cons, not_or, not_false_eq_true, and_true, true_and, or_false, false_or, forall_eq_or_imp, forall_eq, implies_true, Nat.zero_add, Nat.reduceAdd, and_assoc, factsP_mapA, ptb_mapA, ptb_listA, factsP_listA, Nat.mul_one, intCells] at cs
            go_wp2_with fail
            first | apply Mem.atCall | apply Mem.atCode | apply Mem.atList
            case h => repeat' (first | (with_reducible exact O) | (with_reducible apply Mem.drew) | (with_reducible apply Mem.drewN) | (with_reducible apply Mem.ext) | (with_reducible apply Mem.alloc) | (with_reducible apply Mem.setCell) | (simp only [ptb, ptb_upd, foots_cons, List.mem_cons, World.size_alloc, size_ext, World.size_setCell, true_or, or_true, eq_self_iff_true, ptb_mapA, ptb_listA]))
            case' k =>
              intro w1 O'
              (try clear O)
              have O := O'
              clear O'
              (first | simp only [sel, rst, List.cons_append, List.nil_append, World.size_alloc, size_ext, World.size_setCell, size_setMap, World.size_drew, size_drewN, upd, List.set_cons_zero, List.set_cons_succ, if_true, if_false, reduceIte, not_false_eq_true, ne_lt0, ne_lt1, ne_lt2, ne_lt3, ne_lt4, cs] at O | simp only [sel, rst, List.cons_append, List.nil_append, World.size_alloc, size_ext, World.size_setCell, size_setMap, World.size_drew, size_drewN, upd, List.set_cons_zero, List.set_cons_succ, if_true, if_false, reduceIte, not_false_eq_true, ne_lt0, ne_lt1, ne_lt2, ne_lt3, ne_lt4] at O | skip)
              (try clear cs)
              (try clear v1)
              (try clear v2)
              (try clear v3)
            refine (CT.out _).mono ?_
            rintro e w2 ⟨rfl, o⟩
            replace O := O.callp [] o
            clear o
            simp only [put, List.cons_append, List.nil_append] at O
            skip
            have cs := O.facts
            simp only [factsP, cellsP, roomP, foots_cons, foots_nil, foots_append, foot_pt, ptb, ptb_mapA, foot_mapA, factsP_mapA, foot_bun, List.append_nil, List.nil_append, List.cons_append, List.nodup_cons, List.nodup_nil, List.mem_cons, List.not_mem_nil, List.mem_singleton, List.forall_mem_cons, not_or, not_false_eq_true, and_true, true_and, or_false, false_or, forall_eq_or_imp, forall_eq, implies_true, Nat.zero_add, Nat.reduceAdd, and_assoc, factsP_mapA, ptb_mapA, ptb_listA, factsP_listA, Nat.mul_one, intCells] at cs
            have v1 := (LK.out _ (O.map (κ := intK) (vv := Peer.val) (by simp)))
            try simp only [cellsQ, roomP, and_assoc, and_true, true_and, Nat.add_zero, Nat.zero_add, Nat.reduceAdd, factsP, cellsP, roomP, foots_cons, foots_nil, foots_append, foot_pt, ptb, ptb_mapA, foot_mapA, factsP_mapA, foot_bun, List.append_nil, List.nil_append, List.cons_append, List.nodup_cons, List.nodup_nil, List.mem_cons, List.not_mem_nil, List.mem_singleton, List.forall_mem_cons, not_or, not_false_eq_true, and_true, true_and, or_false, false_or, forall_eq_or_imp, forall_eq, implies_true, Nat.zero_add, Nat.reduceAdd, and_assoc, factsP_mapA, ptb_mapA, ptb_listA, factsP_listA, Nat.mul_one, intCells] at v1
            have v2 := ((O.map (κ := intK) (vv := Peer.val) (b := mb) (m := m) (by simp)).len Try.underlying54 3)
            try simp only [cellsQ, roomP, and_assoc, and_true, true_and, Nat.add_zero, Nat.zero_add, Nat.reduceAdd, factsP, cellsP, roomP, foots_cons, foots_nil, foots_append, foot_pt, ptb, ptb_mapA, foot_mapA, factsP_mapA, foot_bun, List.append_nil, List.nil_append, List.cons_append, List.nodup_cons, List.nodup_nil, List.mem_cons, List.not_mem_nil, List.mem_singleton, List.forall_mem_cons, not_or, not_false_eq_true, and_true, true_and, or_false, false_or, forall_eq_or_imp, forall_eq, implies_true, Nat.zero_add, Nat.reduceAdd, and_assoc, factsP_mapA, ptb_mapA, ptb_listA, factsP_listA, Nat.mul_one, intCells] at v2
            go_upto_region 6 with fail
            first | apply Mem.atCall | apply Mem.atCode | apply Mem.atList
            case h => repeat' (first | (with_reducible exact O) | (with_reducible apply Mem.drew) | (with_reducible apply Mem.drewN) | (with_reducible apply Mem.ext) | (with_reducible apply Mem.alloc) | (with_reducible apply Mem.setCell) | (simp only [ptb, ptb_upd, foots_cons, List.mem_cons, World.size_alloc, size_ext, World.size_setCell, true_or, or_true, eq_self_iff_true, ptb_mapA, ptb_listA]))
            case' k =>
              intro w3 O'
              (try clear O)
              have O := O'
              clear O'
              (first | simp only [sel, rst, List.cons_append, List.nil_append, World.size_alloc, size_ext, World.size_setCell, size_setMap, World.size_drew, size_drewN, upd, List.set_cons_zero, List.set_cons_succ, if_true, if_false, reduceIte, not_false_eq_true, ne_lt0, ne_lt1, ne_lt2, ne_lt3, ne_lt4, cs] at O | simp only [sel, rst, List.cons_append, List.nil_append, World.size_alloc, size_ext, World.size_setCell, size_setMap, World.size_drew, size_drewN, upd, List.set_cons_zero, List.set_cons_succ, if_true, if_false, reduceIte, not_false_eq_true, ne_lt0, ne_lt1, ne_lt2, ne_lt3, ne_lt4] at O | skip)
              (try clear cs)
              (try clear v1)
              (try clear v2)
              (try clear v3)
            have cs := O.facts
            simp only [factsP, cellsP, roomP, foots_cons, foots_nil, foots_append, foot_pt, ptb, ptb_mapA, foot_mapA, factsP_mapA, foot_bun, List.append_nil, List.nil_append, List.cons_append, List.nodup_cons, List.nodup_nil, List.mem_cons, List.not_mem_nil, List.mem_singleton, List.forall_mem_cons, not_or, not_false_eq_true, and_true, true_and, or_false, false_or, forall_eq_or_imp, forall_eq, implies_true, Nat.zero_add, Nat.reduceAdd, and_assoc, factsP_mapA, ptb_mapA, ptb_listA, factsP_listA, Nat.mul_one, intCells] at cs
            have v1 := (LK.out _ (O.map (κ := intK) (vv := Peer.val) (by simp)))
            try simp only [cellsQ, roomP, and_assoc, and_true, true_and, Nat.add_zero, Nat.zero_add, Nat.reduceAdd, factsP, cellsP, roomP, foots_cons, foots_nil, foots_append, foot_pt, ptb, ptb_mapA, foot_mapA, factsP_mapA, foot_bun, List.append_nil, List.nil_append, List.cons_append, List.nodup_cons, List.nodup_nil, List.mem_cons, List.not_mem_nil, List.mem_singleton, List.forall_mem_cons, not_or, not_false_eq_true, and_true, true_and, or_false, false_or, forall_eq_or_imp, forall_eq, implies_true, Nat.zero_add, Nat.reduceAdd, and_assoc, factsP_mapA, ptb_mapA, ptb_listA, factsP_listA, Nat.mul_one, intCells] at v1
            have v2 := ((O.map (κ := intK) (vv := Peer.val) (b := mb) (m := m) (by simp)).len Try.underlying54 3)
            try simp only [cellsQ, roomP, and_assoc, and_true, true_and, Nat.add_zero, Nat.zero_add, Nat.reduceAdd, factsP, cellsP, roomP, foots_cons, foots_nil, foots_append, foot_pt, ptb, ptb_mapA, foot_mapA, factsP_mapA, foot_bun, List.append_nil, List.nil_append, List.cons_append, List.nodup_cons, List.nodup_nil, List.mem_cons, List.not_mem_nil, List.mem_singleton, List.forall_mem_cons, not_or, not_false_eq_true, and_true, true_and, or_false, false_or, forall_eq_or_imp, forall_eq, implies_true, Nat.zero_add, Nat.reduceAdd, and_assoc, factsP_mapA, ptb_mapA, ptb_listA, factsP_listA, Nat.mul_one, intCells] at v2
            go_wp2_with fail
            go_ret
            refine ⟨rfl, ?_⟩
            apply Mem.to [false, true, true]
            · repeat' (first | (with_reducible exact O) | (with_reducible apply Mem.drew) | (with_reducible apply Mem.drewN) | (with_reducible apply Mem.ext) | (with_reducible apply Mem.alloc) | (with_reducible apply Mem.setCell) | (simp only [ptb, ptb_upd, foots_cons, List.mem_cons, World.size_alloc, size_ext, World.size_setCell, true_or, or_true, eq_self_iff_true, ptb_mapA, ptb_listA]))
            · first | with_reducible rfl | (simp only [sel, rst, List.cons_append, List.nil_append, World.size_alloc, size_ext, World.size_setCell, size_setMap, World.size_drew, size_drewN, upd, List.set_cons_zero, List.set_cons_succ, if_true, if_false, reduceIte, not_false_eq_true, ne_lt0, ne_lt1, ne_lt2, ne_lt3, ne_lt4, cs]; done) | (simp only [sel, rst, List.cons_append, List.nil_append, World.size_alloc, size_ext, World.size_setCell, size_setMap, World.size_drew, size_drewN, upd, List.set_cons_zero, List.set_cons_succ, if_true, if_false, reduceIte, not_false_eq_true, ne_lt0, ne_lt1, ne_lt2, ne_lt3, ne_lt4]; done) | (simp only [sel, rst, List.cons_append, List.nil_append, World.size_alloc, size_ext, World.size_setCell, size_setMap, World.size_drew, size_drewN, upd, List.set_cons_zero, List.set_cons_succ, if_true, if_false, reduceIte, not_false_eq_true, ne_lt0, ne_lt1, ne_lt2, ne_lt3, ne_lt4, cs]; rfl) | (simp only [sel, rst, List.cons_append, List.nil_append, World.size_alloc, size_ext, World.size_setCell, size_setMap, World.size_drew, size_drewN, upd, List.set_cons_zero, List.set_cons_succ, if_true, if_false, reduceIte, not_false_eq_true, ne_lt0, ne_lt1, ne_lt2, ne_lt3, ne_lt4]; rfl)
          · rw [if_neg h12] at hr
            subst hr
            have h12' : ((m.length : Int) == 12) = false := by simp; omega
            clear h12
            skip
            go_enter Try.func9, Try.ntmps9
            have cs := O.facts
            simp only [factsP, cellsP, roomP, foots_cons, foots_nil, foots_append, foot_pt, ptb, ptb_mapA, foot_mapA, factsP_mapA, foot_bun, List.append_nil, List.nil_append, List.cons_append, List.nodup_cons, List.nodup_nil, List.mem_cons, List.not_mem_nil, List.mem_singleton, List.forall_mem_cons, not_or, not_false_eq_true, and_true, true_and, or_false, false_or, forall_eq_or_imp, forall_eq, implies_true, Nat.zero_add, Nat.reduceAdd, and_assoc, factsP_mapA, ptb_mapA, ptb_listA, factsP_listA, Nat.mul_one, intCells] at cs
            go_wp2_with fail
            first | apply Mem.atCall | apply Mem.atCode | apply Mem.atList
            case h => repeat' (first | (with_reducible exact O) | (with_reducible apply Mem.drew) | (with_reducible apply Mem.drewN) | (with_reducible apply Mem.ext) | (with_reducible apply Mem.alloc) | (with_reducible apply Mem.setCell) | (simp only [ptb, ptb_upd, foots_cons, List.mem_cons, World.size_alloc, size_ext, World.size_setCell, true_or, or_true, eq_self_iff_true, ptb_mapA, ptb_listA]))
            case' k =>
              intro w1 O'
              (try clear O)
              have O := O'
              clear O'
              (first | simp only [sel, rst, List.cons_append, List.nil_append, World.size_alloc, size_ext, World.size_setCell, size_setMap, World.size_drew, size_drewN, upd, List.set_cons_zero, List.set_cons_succ, if_true, if_false, reduceIte, not_false_eq_true, ne_lt0, ne_lt1, ne_lt2, ne_lt3, ne_lt4, cs] at O | simp only [sel, rst, List.cons_append, List.nil_append, World.size_alloc, size_ext, World.size_setCell, size_setMap, World.size_drew, size_drewN, upd, List.set_cons_zero, List.set_cons_succ, if_true, if_false, reduceIte, not_false_eq_true, ne_lt0, ne_lt1, ne_lt2, ne_lt3, ne_lt4] at O | skip)
              (try clear cs)
              (try clear v1)
              (try clear v2)
              (try clear v3)
            refine (CT.out _).mono ?_
            rintro e w2 ⟨rfl, o⟩
            replace O := O.callp [] o
            clear o
            simp only [put, List.cons_append, List.nil_append] at O
            skip
            have cs := O.facts
            simp only [factsP, cellsP, roomP, foots_cons, foots_nil, foots_append, foot_pt, ptb, ptb_mapA, foot_mapA, factsP_mapA, foot_bun, List.append_nil, List.nil_append, List.cons_append, List.nodup_cons, List.nodup_nil, List.mem_cons, List.not_mem_nil, List.mem_singleton, List.forall_mem_cons, not_or, not_false_eq_true, and_true, true_and, or_false, false_or, forall_eq_or_imp, forall_eq, implies_true, Nat.zero_add, Nat.reduceAdd, and_assoc, factsP_mapA, ptb_mapA, ptb_listA, factsP_listA, Nat.mul_one, intCells] at cs
            have v1 := (LK.out _ (O.map (κ := intK) (vv := Peer.val) (by simp)))
            try simp only [cellsQ, roomP, and_assoc, and_true, true_and, Nat.add_zero, Nat.zero_add, Nat.reduceAdd, factsP, cellsP, roomP, foots_cons, foots_nil, foots_append, foot_pt, ptb, ptb_mapA, foot_mapA, factsP_mapA, foot_bun, List.append_nil, List.nil_append, List.cons_append, List.nodup_cons, List.nodup_nil, List.mem_cons, List.not_mem_nil, List.mem_singleton, List.forall_mem_cons, not_or, not_false_eq_true, and_true, true_and, or_false, false_or, forall_eq_or_imp, forall_eq, implies_true, Nat.zero_add, Nat.reduceAdd, and_assoc, factsP_mapA, ptb_mapA, ptb_listA, factsP_listA, Nat.mul_one, intCells] at v1
            have v2 := ((O.map (κ := intK) (vv := Peer.val) (b := mb) (m := m) (by simp)).len Try.underlying54 3)
            try simp only [cellsQ, roomP, and_assoc, and_true, true_and, Nat.add_zero, Nat.zero_add, Nat.reduceAdd, factsP, cellsP, roomP, foots_cons, foots_nil, foots_append, foot_pt, ptb, ptb_mapA, foot_mapA, factsP_mapA, foot_bun, List.append_nil, List.nil_append, List.cons_append, List.nodup_cons, List.nodup_nil, List.mem_cons, List.not_mem_nil, List.mem_singleton, List.forall_mem_cons, not_or, not_false_eq_true, and_true, true_and, or_false, false_or, forall_eq_or_imp, forall_eq, implies_true, Nat.zero_add, Nat.reduceAdd, and_assoc, factsP_mapA, ptb_mapA, ptb_listA, factsP_listA, Nat.mul_one, intCells] at v2
            go_upto_region 6 with fail
            first | apply Mem.atCall | apply Mem.atCode | apply Mem.atList
            case h => repeat' (first | (with_reducible exact O) | (with_reducible apply Mem.drew) | (with_reducible apply Mem.drewN) | (with_reducible apply Mem.ext) | (with_reducible apply Mem.alloc) | (with_reducible apply Mem.setCell) | (simp only [ptb, ptb_upd, foots_cons, List.mem_cons, World.size_alloc, size_ext, World.size_setCell, true_or, or_true, eq_self_iff_true, ptb_mapA, ptb_listA]))
            case' k =>
              intro w3 O'
              (try clear O)
              have O := O'
              clear O'
              (first | simp only [sel, rst, List.cons_append, List.nil_append, World.size_alloc, size_ext, World.size_setCell, size_setMap, World.size_drew, size_drewN, upd, List.set_cons_zero, List.set_cons_succ, if_true, if_false, reduceIte, not_false_eq_true, ne_lt0, ne_lt1, ne_lt2, ne_lt3, ne_lt4, cs] at O | simp only [sel, rst, List.cons_append, List.nil_append, World.size_alloc, size_ext, World.size_setCell, size_setMap, World.size_drew, size_drewN, upd, List.set_cons_zero, List.set_cons_succ, if_true, if_false, reduceIte, not_false_eq_true, ne_lt0, ne_lt1, ne_lt2, ne_lt3, ne_lt4] at O | skip)
              (try clear cs)
              (try clear v1)
              (try clear v2)
              (try clear v3)
            have cs := O.facts
            simp only [factsP, cellsP, roomP, foots_cons, foots_nil, foots_append, foot_pt, ptb, ptb_mapA, foot_mapA, factsP_mapA, foot_bun, List.append_nil, List.nil_append, List.cons_append, List.nodup_cons, List.nodup_nil, List.mem_cons, List.not_mem_nil, List.mem_singleton, List.forall_mem_cons, not_or, not_false_eq_true, and_true, true_and, or_false, false_or, forall_eq_or_imp, forall_eq, implies_true, Nat.zero_add, Nat.reduceAdd, and_assoc, factsP_mapA, ptb_mapA, ptb_listA, factsP_listA, Nat.mul_one, intCells] at cs
            have v1 := (LK.out _ (O.map (κ := intK) (vv := Peer.val) (by simp)))
            try simp only [cellsQ, roomP, and_assoc, and_true, true_and, Nat.add_zero, Nat.zero_add, Nat.reduceAdd, factsP, cellsP, roomP, foots_cons, foots_nil, foots_append, foot_pt, ptb, ptb_mapA, foot_mapA, factsP_mapA, foot_bun, List.append_nil, List.nil_append, List.cons_append, List.nodup_cons, List.nodup_nil, List.mem_cons, List.not_mem_nil, List.mem_singleton, List.forall_mem_cons, not_or, not_false_eq_true, and_true, true_and, or_false, false_or, forall_eq_or_imp, forall_eq, implies_true, Nat.zero_add, Nat.reduceAdd, and_assoc, factsP_mapA, ptb_mapA, ptb_listA, factsP_listA, Nat.mul_one, intCells] at v1
            have v2 := ((O.map (κ := intK) (vv := Peer.val) (b := mb) (m := m) (by simp)).len Try.underlying54 3)
            try simp only [cellsQ, roomP, and_assoc, and_true, true_and, Nat.add_zero, Nat.zero_add, Nat.reduceAdd, factsP, cellsP, roomP, foots_cons, foots_nil, foots_append, foot_pt, ptb, ptb_mapA, foot_mapA, factsP_mapA, foot_bun, List.append_nil, List.nil_append, List.cons_append, List.nodup_cons, List.nodup_nil, List.mem_cons, List.not_mem_nil, List.mem_singleton, List.forall_mem_cons, not_or, not_false_eq_true, and_true, true_and, or_false, false_or, forall_eq_or_imp, forall_eq, implies_true, Nat.zero_add, Nat.reduceAdd, and_assoc, factsP_mapA, ptb_mapA, ptb_listA, factsP_listA, Nat.mul_one, intCells] at v2
            go_upto_region 8 with fail
            skip
            apply region_last_mem (by kernel_rfl) (by kernel_rfl)
            case O => repeat' (first | (with_reducible exact O) | (with_reducible apply Mem.drew) | (with_reducible apply Mem.drewN) | (with_reducible apply Mem.ext) | (with_reducible apply Mem.alloc) | (with_reducible apply Mem.setCell) | (simp only [ptb, ptb_upd, foots_cons, List.mem_cons, World.size_alloc, size_ext, World.size_setCell, true_or, or_true, eq_self_iff_true, ptb_mapA, ptb_listA]))
            case' h =>
              intro w5 O'
              (try clear O)
              have O := O'
              clear O'
              (first | simp only [sel, rst, List.cons_append, List.nil_append, World.size_alloc, size_ext, World.size_setCell, size_setMap, World.size_drew, size_drewN, upd, List.set_cons_zero, List.set_cons_succ, if_true, if_false, reduceIte, not_false_eq_true, ne_lt0, ne_lt1, ne_lt2, ne_lt3, ne_lt4, cs] at O | simp only [sel, rst, List.cons_append, List.nil_append, World.size_alloc, size_ext, World.size_setCell, size_setMap, World.size_drew, size_drewN, upd, List.set_cons_zero, List.set_cons_succ, if_true, if_false, reduceIte, not_false_eq_true, ne_lt0, ne_lt1, ne_lt2, ne_lt3, ne_lt4] at O | skip)
              (try clear cs)
              (try clear v1)
              (try clear v2)
              (try clear v3)
            simp only [List.length_cons, List.length_nil, Nat.reduceAdd, Nat.reduceSub, List.take_succ_cons, List.take_zero, List.drop_succ_cons, List.drop_zero]
            have cs := O.facts
            simp only [factsP, cellsP, roomP, foots_cons, foots_nil, foots_append, foot_pt, ptb, ptb_mapA, foot_mapA, factsP_mapA, foot_bun, List.append_nil, List.nil_append, List.cons_append, List.nodup_cons, List.nodup_nil, List.mem_cons, List.not_mem_nil, List.mem_singleton, List.forall_mem_cons, not_or, not_false_eq_true, and_true, true_and, or_false, false_or, forall_eq_or_imp, forall_eq, implies_true, Nat.zero_add, Nat.reduceAdd, and_assoc, factsP_mapA, ptb_mapA, ptb_listA, factsP_listA, Nat.mul_one, intCells] at cs
            repeat still_step
            refine wpStill_nil ?_
            go_upto_region 9 with ((at_mapUpdate; refine wpList_mapUpdate_mem (O.front1 [false, false, true] rfl) rfl _ _ _ _ rfl Try.underlying54 rfl id HK.out ⟨now, 0, g, false⟩ rfl rfl ?_; intro w6 O6))
            (try clear cs)
            (try clear v1)
            (try clear v2)
            (try clear v3)
            have O7 := O6.unfront
            simp only [put, List.cons_append, List.nil_append] at O7
            clear O O6
            have O := O7
            clear O7
            skip
            have cs := O.facts
            simp only [factsP, cellsP, roomP, foots_cons, foots_nil, foots_append, foot_pt, ptb, ptb_mapA, foot_mapA, factsP_mapA, foot_bun, List.append_nil, List.nil_append, List.cons_append, List.nodup_cons, List.nodup_nil, List.mem_cons, List.not_mem_nil, List.mem_singleton, List.forall_mem_cons, not_or, not_false_eq_true, and_true, true_and, or_false, false_or, forall_eq_or_imp, forall_eq, implies_true, Nat.zero_add, Nat.reduceAdd, and_assoc, factsP_mapA, ptb_mapA, ptb_listA, factsP_listA, Nat.mul_one, intCells] at cs
            go_wp2_with fail
            go_ret
            refine ⟨rfl, ?_⟩
            apply Mem.to [false, true, true]
            · repeat' (first | (with_reducible exact O) | (with_reducible apply Mem.drew) | (with_reducible apply Mem.drewN) | (with_reducible apply Mem.ext) | (with_reducible apply Mem.alloc) | (with_reducible apply Mem.setCell) | (simp only [ptb, ptb_upd, foots_cons, List.mem_cons, World.size_alloc, size_ext, World.size_setCell, true_or, or_true, eq_self_iff_true, ptb_mapA, ptb_listA]))
            · first | with_reducible rfl | (simp only [sel, rst, List.cons_append, List.nil_append, World.size_alloc, size_ext, World.size_setCell, size_setMap, World.size_drew, size_drewN, upd, List.set_cons_zero, List.set_cons_succ, if_true, if_false, reduceIte, not_false_eq_true, ne_lt0, ne_lt1, ne_lt2, ne_lt3, ne_lt4, cs]; done) | (simp only [sel, rst, List.cons_append, List.nil_append, World.size_alloc, size_ext, World.size_setCell, size_setMap, World.size_drew, size_drewN, upd, List.set_cons_zero, List.set_cons_succ, if_true, if_false, reduceIte, not_false_eq_true, ne_lt0, ne_lt1, ne_lt2, ne_lt3, ne_lt4]; done) | (simp only [sel, rst, List.cons_append, List.nil_append, World.size_alloc, size_ext, World.size_setCell, size_setMap, World.size_drew, size_drewN, upd, List.set_cons_zero, List.set_cons_succ, if_true, if_false, reduceIte, not_false_eq_true, ne_lt0, ne_lt1, ne_lt2, ne_lt3, ne_lt4, cs]; rfl) | (simp only [sel, rst, List.cons_append, List.nil_append, World.size_alloc, size_ext, World.size_setCell, size_setMap, World.size_drew, size_drewN, upd, List.set_cons_zero, List.set_cons_succ, if_true, if_false, reduceIte, not_false_eq_true, ne_lt0, ne_lt1, ne_lt2, ne_lt3, ne_lt4]; rfl)
end Go.Proofs.Ytobiodbdnpcanaa
