/- WALK: whoever adds up the changes knows who is suspected (DetectTells). -/
import Derived.Test.YtobiodbdnpcanaaTellsPlain09
import Derived.Test.YtobiodbdnpcanaaLearns09
set_option linter.unusedVariables false
set_option linter.unusedSimpArgs false
namespace Go.Proofs.Ytobiodbdnpcanaa
open Go.RowKit Go.WideShapes Go.ChangeShapes Go.Tk
structure OpD where
  kind : Int
  peer : Int
  at_ : Int
  raw : Bool
def OpD.cells (o : OpD) : List Value := [.int .i64 o.kind, .int .i64 o.peer, .int .i64 o.at_, .bool o.raw]
theorem tmod12 (a : Int) : -11 ≤ a.tmod 12 ∧ a.tmod 12 ≤ 11 := by
  by_cases h : 0 ≤ a
  · rw [Int.tmod_eq_emod_of_nonneg h]; omega
  · have e : a.tmod 12 = -((-a).tmod 12) := by rw [Int.neg_tmod]; omega
    rw [e, Int.tmod_eq_emod_of_nonneg (by omega)]; omega
theorem tmod100 (a : Int) : -99 ≤ a.tmod 100 ∧ a.tmod 100 ≤ 99 := by
  by_cases h : 0 ≤ a
  · rw [Int.tmod_eq_emod_of_nonneg h]; omega
  · have e : a.tmod 100 = -((-a).tmod 100) := by rw [Int.neg_tmod]; omega
    rw [e, Int.tmod_eq_emod_of_nonneg (by omega)]; omega
set_option maxRecDepth 100000 in
set_option maxHeartbeats 16000000 in
theorem tells_walk (w : World) (V : Value) (l : List OpD) (hl : ArgList w 4 OpD.cells V l) (hok : ∀ a ∈ l, inI64 a.kind ∧ inI64 a.peer ∧ inI64 a.at_) : Calls Try.prog 5 #[V] w (fun e w' => e = .returned (.bool true) ∧ Below w.heap.size w w') := by
  obtain ⟨hlen0, SA, sc, rfl, hlat⟩ := hl
  have HC := Lib.hid hlat
  have HO := Lib.hid hok
  clear hlat hok
  have O : Mem w [] w [] := Mem.begin
  go_enter Try.func5, Try.ntmps5
  have cs := O.facts
  simp only [factsP, cellsP, roomP, foots_cons, foots_nil, foots_append, foot_pt, ptb, ptb_mapA, foot_mapA, factsP_mapA, foot_bun, List.append_nil, List.nil_append, List.cons_append, List.nodup_cons, List.nodup_nil, List.mem_cons, List.not_mem_nil, List.mem_singleton, List.forall_mem_cons, not_or, not_false_eq_true, and_true, true_and, or_false, false_or, forall_eq_or_imp, forall_eq, implies_true, Nat.zero_add, Nat.reduceAdd, and_assoc, factsP_mapA, ptb_mapA, ptb_listA, factsP_listA, Nat.mul_one, intCells, changeCells] at cs
  go_wp2_with fail
  first | apply Mem.atCall | apply Mem.atCode | apply Mem.atList
  case h => repeat' (first | (with_reducible exact O) | (with_reducible apply Mem.drew) | (with_reducible apply Mem.drewN) | (with_reducible apply Mem.ext) | (with_reducible apply Mem.alloc) | (with_reducible apply Mem.setCell) | (simp only [ptb, ptb_upd, foots_cons, List.mem_cons, World.size_alloc, size_ext, World.size_setCell, true_or, or_true, eq_self_iff_true, ptb_mapA, ptb_listA]))
  case' k =>
    intro w1 O'
    (try clear O)
    have O := O'
    clear O'
    (first | simp only [sel, rst, List.cons_append, List.nil_append, World.size_alloc, size_ext, World.size_setCell, size_setMap, World.size_drew, size_drewN, upd, List.set_cons_zero, List.set_cons_succ, if_true, if_false, reduceIte, not_false_eq_true, ne_lt0, ne_lt1, ne_lt2, ne_lt3, ne_lt4, cs] at O | simp only [sel, rst, List.cons_append, List.nil_append, World.size_alloc, size_ext, World.size_setCell, size_setMap, World.size_drew, size_drewN, upd, List.set_cons_zero, List.set_cons_succ, if_true, if_false, reduceIte, not_false_eq_true, ne_lt0, ne_lt1, ne_lt2, ne_lt3, ne_lt4] at O | skip)
    (try clear cs)
    (try clear v1)
    (try clear v2)
    (try clear v3)
  refine (law_awake _).mono ?_
  rintro e w2 ⟨rfl, o⟩
  replace O := O.callp [] o
  clear o
  simp only [put, List.cons_append, List.nil_append] at O
  try simp only [List.append_nil] at O
  have cs := O.facts
  simp only [factsP, cellsP, roomP, foots_cons, foots_nil, foots_append, foot_pt, ptb, ptb_mapA, foot_mapA, factsP_mapA, foot_bun, List.append_nil, List.nil_append, List.cons_append, List.nodup_cons, List.nodup_nil, List.mem_cons, List.not_mem_nil, List.mem_singleton, List.forall_mem_cons, not_or, not_false_eq_true, and_true, true_and, or_false, false_or, forall_eq_or_imp, forall_eq, implies_true, Nat.zero_add, Nat.reduceAdd, and_assoc, factsP_mapA, ptb_mapA, ptb_listA, factsP_listA, Nat.mul_one, intCells, changeCells] at cs
  go_wp2_with fail
  first | apply Mem.atCall | apply Mem.atCode | apply Mem.atList
  case h => repeat' (first | (with_reducible exact O) | (with_reducible apply Mem.drew) | (with_reducible apply Mem.drewN) | (with_reducible apply Mem.ext) | (with_reducible apply Mem.alloc) | (with_reducible apply Mem.setCell) | (simp only [ptb, ptb_upd, foots_cons, List.mem_cons, World.size_alloc, size_ext, World.size_setCell, true_or, or_true, eq_self_iff_true, ptb_mapA, ptb_listA]))
  case' k =>
    intro w3 O'
    (try clear O)
    have O := O'
    clear O'
    (first | simp only [sel, rst, List.cons_append, List.nil_append, World.size_alloc, size_ext, World.size_setCell, size_setMap, World.size_drew, size_drewN, upd, List.set_cons_zero, List.set_cons_succ, if_true, if_false, reduceIte, not_false_eq_true, ne_lt0, ne_lt1, ne_lt2, ne_lt3, ne_lt4, cs] at O | simp only [sel, rst, List.cons_append, List.nil_append, World.size_alloc, size_ext, World.size_setCell, size_setMap, World.size_drew, size_drewN, upd, List.set_cons_zero, List.set_cons_succ, if_true, if_false, reduceIte, not_false_eq_true, ne_lt0, ne_lt1, ne_lt2, ne_lt3, ne_lt4] at O | skip)
    (try clear cs)
    (try clear v1)
    (try clear v2)
    (try clear v3)
  refine (d_New 8 _ ⟨by omega, by omega⟩).mono ?_
  rintro e w4 ⟨rfl, o⟩
  replace O := O.callp [] o
  clear o
  simp only [put, List.cons_append, List.nil_append] at O
  generalize w3.heap.size = mb at O ⊢
  simp only [detL, List.append_nil] at O
  have cs := O.facts
  simp only [factsP, cellsP, roomP, foots_cons, foots_nil, foots_append, foot_pt, ptb, ptb_mapA, foot_mapA, factsP_mapA, foot_bun, List.append_nil, List.nil_append, List.cons_append, List.nodup_cons, List.nodup_nil, List.mem_cons, List.not_mem_nil, List.mem_singleton, List.forall_mem_cons, not_or, not_false_eq_true, and_true, true_and, or_false, false_or, forall_eq_or_imp, forall_eq, implies_true, Nat.zero_add, Nat.reduceAdd, and_assoc, factsP_mapA, ptb_mapA, ptb_listA, factsP_listA, Nat.mul_one, intCells, changeCells] at cs
  go_wp2_with fail
  first | apply Mem.atCall | apply Mem.atCode | apply Mem.atList
  case h => repeat' (first | (with_reducible exact O) | (with_reducible apply Mem.drew) | (with_reducible apply Mem.drewN) | (with_reducible apply Mem.ext) | (with_reducible apply Mem.alloc) | (with_reducible apply Mem.setCell) | (simp only [ptb, ptb_upd, foots_cons, List.mem_cons, World.size_alloc, size_ext, World.size_setCell, true_or, or_true, eq_self_iff_true, ptb_mapA, ptb_listA]))
  case' k =>
    intro w5 O'
    (try clear O)
    have O := O'
    clear O'
    (first | simp only [sel, rst, List.cons_append, List.nil_append, World.size_alloc, size_ext, World.size_setCell, size_setMap, World.size_drew, size_drewN, upd, List.set_cons_zero, List.set_cons_succ, if_true, if_false, reduceIte, not_false_eq_true, ne_lt0, ne_lt1, ne_lt2, ne_lt3, ne_lt4, cs] at O | simp only [sel, rst, List.cons_append, List.nil_append, World.size_alloc, size_ext, World.size_setCell, size_setMap, World.size_drew, size_drewN, upd, List.set_cons_zero, List.set_cons_succ, if_true, if_false, reduceIte, not_false_eq_true, ne_lt0, ne_lt1, ne_lt2, ne_lt3, ne_lt4] at O | skip)
    (try clear cs)
    (try clear v1)
    (try clear v2)
    (try clear v3)
  generalize hdb : mb + 1 = db at O ⊢
  generalize w4.heap.size = bb at O ⊢
  clear hdb
  go_loopw [7, 8] (fun s7 s8 wr => ∃ (i : Nat) (now : Int) (m : List (Int × Peer)) (bs : List Bool), i ≤ l.length ∧ s8 = .int .i64 i ∧ s7 = .int .i64 now ∧ Mem w [] wr [.pt bb (bs.map Value.bool) 45, .pt db [.int .i64 8, .map (some mb)] 56, mapA intK Peer.val mb m] ∧ Hid (TInv now m bs ∧ 0 ≤ now ∧ now ≤ 100 * i ∧ i ≤ 500)) (fun _ s8 _ => l.length - (intOf s8).toNat)
  case atStart => exact ⟨0, 0, [], List.replicate 12 false, by omega, rfl, rfl, O, Lib.hid ⟨TInv.zero, by omega, by omega, by omega⟩⟩
  case round =>
    clear O
    obtain ⟨i, now, m, bs, hi, rfl, rfl, O, HI⟩ := hrel
    by_cases hlt : i < l.length ∧ i < 500
    case neg =>
      have hcase : (i < l.length ∧ ¬ i < 500) ∨ ¬ i < l.length := by omega
      skip
      rcases hcase with ⟨h1, h2⟩ | h1
      · have h3 : (i : Int) < l.length := by omega
        have h4 : ¬ (i : Int) < 500 := by omega
        have cs := O.facts
        simp only [factsP, cellsP, roomP, foots_cons, foots_nil, foots_append, foot_pt, ptb, ptb_mapA, foot_mapA, factsP_mapA, foot_bun, List.append_nil, List.nil_append, List.cons_append, List.nodup_cons, List.nodup_nil, List.mem_cons, List.not_mem_nil, List.mem_singleton, List.forall_mem_cons, not_or, not_false_eq_true, and_true, true_and, or_false, false_or, forall_eq_or_imp, forall_eq, implies_true, Nat.zero_add, Nat.reduceAdd, and_assoc, factsP_mapA, ptb_mapA, ptb_listA, factsP_listA, Nat.mul_one, intCells, changeCells] at cs
        go_wp2_with fail
        go_ret
        exact ⟨by simp, O.fr0.fr.below rfl⟩
      · have h3 : ¬ (i : Int) < l.length := by omega
        have cs := O.facts
        simp only [factsP, cellsP, roomP, foots_cons, foots_nil, foots_append, foot_pt, ptb, ptb_mapA, foot_mapA, factsP_mapA, foot_bun, List.append_nil, List.nil_append, List.cons_append, List.nodup_cons, List.nodup_nil, List.mem_cons, List.not_mem_nil, List.mem_singleton, List.forall_mem_cons, not_or, not_false_eq_true, and_true, true_and, or_false, false_or, forall_eq_or_imp, forall_eq, implies_true, Nat.zero_add, Nat.reduceAdd, and_assoc, factsP_mapA, ptb_mapA, ptb_listA, factsP_listA, Nat.mul_one, intCells, changeCells] at cs
        go_wp2_with fail
        go_ret
        exact ⟨by simp, O.fr0.fr.below rfl⟩
    case pos =>
      obtain ⟨hlt, h500⟩ := hlt
      have hlti : (i : Int) < l.length := by omega
      have h5i : (i : Int) < 500 := by omega
      obtain ⟨b, off, rfl, hbb, hq⟩ := HC.out i _ (List.getElem?_eq_getElem hlt)
      generalize l[i] = o at *
      have Vw := Lib.hid (fun W (h : Fr [] w W) => arg_view hbb hq h)
      clear hq
      obtain ⟨ok, op, oa, orw⟩ := o
      simp only [OpD.cells, cellsQ, Nat.add_zero, Nat.reduceAdd, and_true, Nat.zero_add] at Vw
      have hb1 := tmod12 op
      have hb2 := tmod100 oa
      obtain ⟨t, ht⟩ : ∃ t, op.tmod 12 = t := ⟨_, rfl⟩
      obtain ⟨u, hu⟩ : ∃ u, oa.tmod 100 = u := ⟨_, rfl⟩
      rw [ht] at hb1
      rw [hu] at hb2
      have e1 : IntKind.i64.wrap t = t := by simp [IntKind.wrap, IntKind.signed, IntKind.bits]; omega
      have e2 : IntKind.i64.wrap u = u := by simp [IntKind.wrap, IntKind.signed, IntKind.bits]; omega
      obtain ⟨P, hP⟩ : ∃ P : Nat, (P : Int) = if t < 0 then -t else t := ⟨(if t < 0 then -t else t).toNat, by split <;> omega⟩
      obtain ⟨G, hG⟩ : ∃ G, G = if u < 0 then -u else u := ⟨_, rfl⟩
      have hP12 : P < 12 := by split at hP <;> omega
      have hG0 : 0 ≤ G ∧ G ≤ 99 := by rw [hG]; split <;> omega
      skip
      have cs := O.facts
      simp only [factsP, cellsP, roomP, foots_cons, foots_nil, foots_append, foot_pt, ptb, ptb_mapA, foot_mapA, factsP_mapA, foot_bun, List.append_nil, List.nil_append, List.cons_append, List.nodup_cons, List.nodup_nil, List.mem_cons, List.not_mem_nil, List.mem_singleton, List.forall_mem_cons, not_or, not_false_eq_true, and_true, true_and, or_false, false_or, forall_eq_or_imp, forall_eq, implies_true, Nat.zero_add, Nat.reduceAdd, and_assoc, factsP_mapA, ptb_mapA, ptb_listA, factsP_listA, Nat.mul_one, intCells, changeCells] at cs
      have v1 := Vw.out _ O.fr
      simp only [roomP, and_assoc] at v1
      go_upto_region 11 with fail
      first | apply Mem.atCall | apply Mem.atCode | apply Mem.atList
      case h => repeat' (first | (with_reducible exact O) | (with_reducible apply Mem.drew) | (with_reducible apply Mem.drewN) | (with_reducible apply Mem.ext) | (with_reducible apply Mem.alloc) | (with_reducible apply Mem.setCell) | (simp only [ptb, ptb_upd, foots_cons, List.mem_cons, World.size_alloc, size_ext, World.size_setCell, true_or, or_true, eq_self_iff_true, ptb_mapA, ptb_listA]))
      case' k =>
        intro x1 O'
        (try clear O)
        have O := O'
        clear O'
        (first | simp only [sel, rst, List.cons_append, List.nil_append, World.size_alloc, size_ext, World.size_setCell, size_setMap, World.size_drew, size_drewN, upd, List.set_cons_zero, List.set_cons_succ, if_true, if_false, reduceIte, not_false_eq_true, ne_lt0, ne_lt1, ne_lt2, ne_lt3, ne_lt4, cs] at O | simp only [sel, rst, List.cons_append, List.nil_append, World.size_alloc, size_ext, World.size_setCell, size_setMap, World.size_drew, size_drewN, upd, List.set_cons_zero, List.set_cons_succ, if_true, if_false, reduceIte, not_false_eq_true, ne_lt0, ne_lt1, ne_lt2, ne_lt3, ne_lt4] at O | skip)
        (try clear cs)
        (try clear v1)
        (try clear v2)
        (try clear v3)
      generalize wr.heap.size = ob at O ⊢
      skip
      have cs := O.facts
      simp only [factsP, cellsP, roomP, foots_cons, foots_nil, foots_append, foot_pt, ptb, ptb_mapA, foot_mapA, factsP_mapA, foot_bun, List.append_nil, List.nil_append, List.cons_append, List.nodup_cons, List.nodup_nil, List.mem_cons, List.not_mem_nil, List.mem_singleton, List.forall_mem_cons, not_or, not_false_eq_true, and_true, true_and, or_false, false_or, forall_eq_or_imp, forall_eq, implies_true, Nat.zero_add, Nat.reduceAdd, and_assoc, factsP_mapA, ptb_mapA, ptb_listA, factsP_listA, Nat.mul_one, intCells, changeCells] at cs
      go_upto_if 50 with fail
      go_cut [10] (fun s10 wc => s10 = .int .i64 P ∧ Mem w [] wc [.pt ob [.int .i64 ok, .int .i64 op, .int .i64 oa, .bool orw] 43, .pt bb (bs.map Value.bool) 45, .pt db [.int .i64 8, .map (some mb)] 56, mapA intK Peer.val mb m])
      case first =>
        by_cases h : t < 0
        · have e3 : IntKind.i64.wrap (-t) = -t := by simp [IntKind.wrap, IntKind.signed, IntKind.bits]; omega
          rw [if_pos h] at hP
          have cs := O.facts
          simp only [factsP, cellsP, roomP, foots_cons, foots_nil, foots_append, foot_pt, ptb, ptb_mapA, foot_mapA, factsP_mapA, foot_bun, List.append_nil, List.nil_append, List.cons_append, List.nodup_cons, List.nodup_nil, List.mem_cons, List.not_mem_nil, List.mem_singleton, List.forall_mem_cons, not_or, not_false_eq_true, and_true, true_and, or_false, false_or, forall_eq_or_imp, forall_eq, implies_true, Nat.zero_add, Nat.reduceAdd, and_assoc, factsP_mapA, ptb_mapA, ptb_listA, factsP_listA, Nat.mul_one, intCells, changeCells] at cs
          go_wp2_with fail
          go_meet
          exact ⟨by rw [hP], O⟩
        · rw [if_neg h] at hP
          have cs := O.facts
          simp only [factsP, cellsP, roomP, foots_cons, foots_nil, foots_append, foot_pt, ptb, ptb_mapA, foot_mapA, factsP_mapA, foot_bun, List.append_nil, List.nil_append, List.cons_append, List.nodup_cons, List.nodup_nil, List.mem_cons, List.not_mem_nil, List.mem_singleton, List.forall_mem_cons, not_or, not_false_eq_true, and_true, true_and, or_false, false_or, forall_eq_or_imp, forall_eq, implies_true, Nat.zero_add, Nat.reduceAdd, and_assoc, factsP_mapA, ptb_mapA, ptb_listA, factsP_listA, Nat.mul_one, intCells, changeCells] at cs
          go_wp2_with fail
          go_meet
          exact ⟨by rw [hP], O⟩
      case rest =>
        clear O hP ht e1 hb1
        obtain ⟨rfl, O⟩ := hcut
        have cs := O.facts
        simp only [factsP, cellsP, roomP, foots_cons, foots_nil, foots_append, foot_pt, ptb, ptb_mapA, foot_mapA, factsP_mapA, foot_bun, List.append_nil, List.nil_append, List.cons_append, List.nodup_cons, List.nodup_nil, List.mem_cons, List.not_mem_nil, List.mem_singleton, List.forall_mem_cons, not_or, not_false_eq_true, and_true, true_and, or_false, false_or, forall_eq_or_imp, forall_eq, implies_true, Nat.zero_add, Nat.reduceAdd, and_assoc, factsP_mapA, ptb_mapA, ptb_listA, factsP_listA, Nat.mul_one, intCells, changeCells] at cs
        go_upto_if 57 with fail
        go_cut [11] (fun s11 wc => s11 = .int .i64 G ∧ Mem w [] wc [.pt ob [.int .i64 ok, .int .i64 op, .int .i64 oa, .bool orw] 43, .pt bb (bs.map Value.bool) 45, .pt db [.int .i64 8, .map (some mb)] 56, mapA intK Peer.val mb m])
        case first =>
          by_cases h : u < 0
          · have e3 : IntKind.i64.wrap (-u) = -u := by simp [IntKind.wrap, IntKind.signed, IntKind.bits]; omega
            rw [if_pos h] at hG
            have cs := O.facts
            simp only [factsP, cellsP, roomP, foots_cons, foots_nil, foots_append, foot_pt, ptb, ptb_mapA, foot_mapA, factsP_mapA, foot_bun, List.append_nil, List.nil_append, List.cons_append, List.nodup_cons, List.nodup_nil, List.mem_cons, List.not_mem_nil, List.mem_singleton, List.forall_mem_cons, not_or, not_false_eq_true, and_true, true_and, or_false, false_or, forall_eq_or_imp, forall_eq, implies_true, Nat.zero_add, Nat.reduceAdd, and_assoc, factsP_mapA, ptb_mapA, ptb_listA, factsP_listA, Nat.mul_one, intCells, changeCells] at cs
            go_wp2_with fail
            go_meet
            exact ⟨by rw [hG], O⟩
          · rw [if_neg h] at hG
            have cs := O.facts
            simp only [factsP, cellsP, roomP, foots_cons, foots_nil, foots_append, foot_pt, ptb, ptb_mapA, foot_mapA, factsP_mapA, foot_bun, List.append_nil, List.nil_append, List.cons_append, List.nodup_cons, List.nodup_nil, List.mem_cons, List.not_mem_nil, List.mem_singleton, List.forall_mem_cons, not_or, not_false_eq_true, and_true, true_and, or_false, false_or, forall_eq_or_imp, forall_eq, implies_true, Nat.zero_add, Nat.reduceAdd, and_assoc, factsP_mapA, ptb_mapA, ptb_listA, factsP_listA, Nat.mul_one, intCells, changeCells] at cs
            go_wp2_with fail
            go_meet
            exact ⟨by rw [hG], O⟩
        case rest =>
          clear O hG hu e2 hb2 Vw
          obtain ⟨rfl, O⟩ := hcut
          have hnow := HI.out.2
          have e1 : IntKind.i64.wrap (now + G) = now + G := by simp [IntKind.wrap, IntKind.signed, IntKind.bits]; omega
          obtain ⟨n', hn'⟩ : ∃ n', now + G = n' := ⟨_, rfl⟩
          rw [hn'] at e1
          have hT : TInv n' m bs := HI.out.1.later (by omega)
          have HT := Lib.hid hT
          have HN := Lib.hid (show 0 ≤ n' ∧ n' ≤ 100 * ((i + 1 : Nat) : Int) ∧ i + 1 ≤ 500 ∧ n' ≤ 1099511627776 by omega)
          have htm : timeOk n' = true := by simp [timeOk]; omega
          have HTM := Lib.hid htm
          have HPI := Lib.hid (show 0 ≤ (P : Int) ∧ (P : Int) < 12 by omega)
          clear hT htm hnow hG0
          have cs := O.facts
          simp only [factsP, cellsP, roomP, foots_cons, foots_nil, foots_append, foot_pt, ptb, ptb_mapA, foot_mapA, factsP_mapA, foot_bun, List.append_nil, List.nil_append, List.cons_append, List.nodup_cons, List.nodup_nil, List.mem_cons, List.not_mem_nil, List.mem_singleton, List.forall_mem_cons, not_or, not_false_eq_true, and_true, true_and, or_false, false_or, forall_eq_or_imp, forall_eq, implies_true, Nat.zero_add, Nat.reduceAdd, and_assoc, factsP_mapA, ptb_mapA, ptb_listA, factsP_listA, Nat.mul_one, intCells, changeCells] at cs
          go_upto_if 149 with fail
          first | apply Mem.atCall | apply Mem.atCode | apply Mem.atList
          case h => repeat' (first | (with_reducible exact O) | (with_reducible apply Mem.drew) | (with_reducible apply Mem.drewN) | (with_reducible apply Mem.ext) | (with_reducible apply Mem.alloc) | (with_reducible apply Mem.setCell) | (simp only [ptb, ptb_upd, foots_cons, List.mem_cons, World.size_alloc, size_ext, World.size_setCell, true_or, or_true, eq_self_iff_true, ptb_mapA, ptb_listA]))
          case' k =>
            intro x2 O'
            (try clear O)
            have O := O'
            clear O'
            (first | simp only [sel, rst, List.cons_append, List.nil_append, World.size_alloc, size_ext, World.size_setCell, size_setMap, World.size_drew, size_drewN, upd, List.set_cons_zero, List.set_cons_succ, if_true, if_false, reduceIte, not_false_eq_true, ne_lt0, ne_lt1, ne_lt2, ne_lt3, ne_lt4, cs] at O | simp only [sel, rst, List.cons_append, List.nil_append, World.size_alloc, size_ext, World.size_setCell, size_setMap, World.size_drew, size_drewN, upd, List.set_cons_zero, List.set_cons_succ, if_true, if_false, reduceIte, not_false_eq_true, ne_lt0, ne_lt1, ne_lt2, ne_lt3, ne_lt4] at O | skip)
            (try clear cs)
            (try clear v1)
            (try clear v2)
            (try clear v3)
          clear hn' e1
          have hP12i : (P : Int) < 12 := by omega
          obtain ⟨fl, hfl⟩ : ∃ fl, (bs.map Value.bool)[P]? = some (Value.bool fl) := by
            have := HT.out.flag P hP12
            exact ⟨_, by rw [List.getElem?_map, this]; rfl⟩
          have HFL := Lib.hid hfl
          clear hfl
          have HPB := Lib.hid (show -9223372036854775808 ≤ (P : Int) ∧ (P : Int) ≤ 9223372036854775807 by omega)
          by_cases k1 : ok = 1
          · subst k1
            have cs := O.facts
            simp only [factsP, cellsP, roomP, foots_cons, foots_nil, foots_append, foot_pt, ptb, ptb_mapA, foot_mapA, factsP_mapA, foot_bun, List.append_nil, List.nil_append, List.cons_append, List.nodup_cons, List.nodup_nil, List.mem_cons, List.not_mem_nil, List.mem_singleton, List.forall_mem_cons, not_or, not_false_eq_true, and_true, true_and, or_false, false_or, forall_eq_or_imp, forall_eq, implies_true, Nat.zero_add, Nat.reduceAdd, and_assoc, factsP_mapA, ptb_mapA, ptb_listA, factsP_listA, Nat.mul_one, intCells, changeCells] at cs
            go_wp2_with fail
            first | apply Mem.atCall | apply Mem.atCode | apply Mem.atList
            case h => repeat' (first | (with_reducible exact O) | (with_reducible apply Mem.drew) | (with_reducible apply Mem.drewN) | (with_reducible apply Mem.ext) | (with_reducible apply Mem.alloc) | (with_reducible apply Mem.setCell) | (simp only [ptb, ptb_upd, foots_cons, List.mem_cons, World.size_alloc, size_ext, World.size_setCell, true_or, or_true, eq_self_iff_true, ptb_mapA, ptb_listA]))
            case' k =>
              intro x3 O'
              (try clear O)
              have O := O'
              clear O'
              (first | simp only [sel, rst, List.cons_append, List.nil_append, World.size_alloc, size_ext, World.size_setCell, size_setMap, World.size_drew, size_drewN, upd, List.set_cons_zero, List.set_cons_succ, if_true, if_false, reduceIte, not_false_eq_true, ne_lt0, ne_lt1, ne_lt2, ne_lt3, ne_lt4, cs] at O | simp only [sel, rst, List.cons_append, List.nil_append, World.size_alloc, size_ext, World.size_setCell, size_setMap, World.size_drew, size_drewN, upd, List.set_cons_zero, List.set_cons_succ, if_true, if_false, reduceIte, not_false_eq_true, ne_lt0, ne_lt1, ne_lt2, ne_lt3, ne_lt4] at O | skip)
              (try clear cs)
              (try clear v1)
              (try clear v2)
              (try clear v3)
            refine (d_Watch x3 db mb 8 m (O.pre [false, false, true, true]) P n' HPB.out).mono ?_
            rintro e x4 ⟨rfl, o⟩
            replace O := O.callp [false, false, true, true] o
            clear o
            simp only [detL, put, List.cons_append, List.nil_append] at O
            have cs := O.facts
            simp only [factsP, cellsP, roomP, foots_cons, foots_nil, foots_append, foot_pt, ptb, ptb_mapA, foot_mapA, factsP_mapA, foot_bun, List.append_nil, List.nil_append, List.cons_append, List.nodup_cons, List.nodup_nil, List.mem_cons, List.not_mem_nil, List.mem_singleton, List.forall_mem_cons, not_or, not_false_eq_true, and_true, true_and, or_false, false_or, forall_eq_or_imp, forall_eq, implies_true, Nat.zero_add, Nat.reduceAdd, and_assoc, factsP_mapA, ptb_mapA, ptb_listA, factsP_listA, Nat.mul_one, intCells, changeCells] at cs
            go_wp2_with fail
            go_roundw
            case rel => exact ⟨i + 1, n', _, bs, by omega, by go_num, rfl, O.sel [false, true, true, true], Lib.hid ⟨HT.out.watch HPI.out HTM.out, HN.out.1, HN.out.2.1, HN.out.2.2.1⟩⟩
            case measure => simp [intOf]; omega
          by_cases k2 : ok = 2
          · subst k2
            cases hg : mget m (P : Int) with
            | none =>
              have cs := O.facts
              simp only [factsP, cellsP, roomP, foots_cons, foots_nil, foots_append, foot_pt, ptb, ptb_mapA, foot_mapA, factsP_mapA, foot_bun, List.append_nil, List.nil_append, List.cons_append, List.nodup_cons, List.nodup_nil, List.mem_cons, List.not_mem_nil, List.mem_singleton, List.forall_mem_cons, not_or, not_false_eq_true, and_true, true_and, or_false, false_or, forall_eq_or_imp, forall_eq, implies_true, Nat.zero_add, Nat.reduceAdd, and_assoc, factsP_mapA, ptb_mapA, ptb_listA, factsP_listA, Nat.mul_one, intCells, changeCells] at cs
              go_wp2_with fail
              first | apply Mem.atCall | apply Mem.atCode | apply Mem.atList
              case h => repeat' (first | (with_reducible exact O) | (with_reducible apply Mem.drew) | (with_reducible apply Mem.drewN) | (with_reducible apply Mem.ext) | (with_reducible apply Mem.alloc) | (with_reducible apply Mem.setCell) | (simp only [ptb, ptb_upd, foots_cons, List.mem_cons, World.size_alloc, size_ext, World.size_setCell, true_or, or_true, eq_self_iff_true, ptb_mapA, ptb_listA]))
              case' k =>
                intro x3 O'
                (try clear O)
                have O := O'
                clear O'
                (first | simp only [sel, rst, List.cons_append, List.nil_append, World.size_alloc, size_ext, World.size_setCell, size_setMap, World.size_drew, size_drewN, upd, List.set_cons_zero, List.set_cons_succ, if_true, if_false, reduceIte, not_false_eq_true, ne_lt0, ne_lt1, ne_lt2, ne_lt3, ne_lt4, cs] at O | simp only [sel, rst, List.cons_append, List.nil_append, World.size_alloc, size_ext, World.size_setCell, size_setMap, World.size_drew, size_drewN, upd, List.set_cons_zero, List.set_cons_succ, if_true, if_false, reduceIte, not_false_eq_true, ne_lt0, ne_lt1, ne_lt2, ne_lt3, ne_lt4] at O | skip)
                (try clear cs)
                (try clear v1)
                (try clear v2)
                (try clear v3)
              refine (d_Leave_none x3 db mb 8 m (O.pre [false, false, true, true]) P HPB.out hg).mono ?_
              rintro e x4 ⟨rfl, o⟩
              replace O := O.callp [] o
              clear o
              simp only [put, List.nil_append] at O
              skip
              have cs := O.facts
              simp only [factsP, cellsP, roomP, foots_cons, foots_nil, foots_append, foot_pt, ptb, ptb_mapA, foot_mapA, factsP_mapA, foot_bun, List.append_nil, List.nil_append, List.cons_append, List.nodup_cons, List.nodup_nil, List.mem_cons, List.not_mem_nil, List.mem_singleton, List.forall_mem_cons, not_or, not_false_eq_true, and_true, true_and, or_false, false_or, forall_eq_or_imp, forall_eq, implies_true, Nat.zero_add, Nat.reduceAdd, and_assoc, factsP_mapA, ptb_mapA, ptb_listA, factsP_listA, Nat.mul_one, intCells, changeCells] at cs
              have v1 := (O.ptCell (b := bb) (cs := bs.map Value.bool) (t := 45) (by simp) HFL.out)
              try simp only [cellsQ, roomP, and_assoc, and_true, true_and, Nat.add_zero, Nat.zero_add, Nat.reduceAdd, factsP, cellsP, roomP, foots_cons, foots_nil, foots_append, foot_pt, ptb, ptb_mapA, foot_mapA, factsP_mapA, foot_bun, List.append_nil, List.nil_append, List.cons_append, List.nodup_cons, List.nodup_nil, List.mem_cons, List.not_mem_nil, List.mem_singleton, List.forall_mem_cons, not_or, not_false_eq_true, and_true, true_and, or_false, false_or, forall_eq_or_imp, forall_eq, implies_true, Nat.zero_add, Nat.reduceAdd, and_assoc, factsP_mapA, ptb_mapA, ptb_listA, factsP_listA, Nat.mul_one, intCells, changeCells] at v1
              go_wp2_with fail
              go_roundw
              case rel =>
                refine ⟨i + 1, n', mdel m P, bs.set P false, by omega, by go_num, rfl, ?_, Lib.hid ⟨HT.out.leave hP12, HN.out.1, HN.out.2.1, HN.out.2.2.1⟩⟩
                rw [List.map_set, mdel_none hg]
                apply Mem.to [false, true, true, true]
                · repeat' (first | (with_reducible exact O) | (with_reducible apply Mem.drew) | (with_reducible apply Mem.drewN) | (with_reducible apply Mem.ext) | (with_reducible apply Mem.alloc) | (with_reducible apply Mem.setCell) | (simp only [ptb, ptb_upd, foots_cons, List.mem_cons, World.size_alloc, size_ext, World.size_setCell, true_or, or_true, eq_self_iff_true, ptb_mapA, ptb_listA]))
                · first | with_reducible rfl | (simp only [sel, rst, List.cons_append, List.nil_append, World.size_alloc, size_ext, World.size_setCell, size_setMap, World.size_drew, size_drewN, upd, List.set_cons_zero, List.set_cons_succ, if_true, if_false, reduceIte, not_false_eq_true, ne_lt0, ne_lt1, ne_lt2, ne_lt3, ne_lt4, cs]; done) | (simp only [sel, rst, List.cons_append, List.nil_append, World.size_alloc, size_ext, World.size_setCell, size_setMap, World.size_drew, size_drewN, upd, List.set_cons_zero, List.set_cons_succ, if_true, if_false, reduceIte, not_false_eq_true, ne_lt0, ne_lt1, ne_lt2, ne_lt3, ne_lt4]; done) | (simp only [sel, rst, List.cons_append, List.nil_append, World.size_alloc, size_ext, World.size_setCell, size_setMap, World.size_drew, size_drewN, upd, List.set_cons_zero, List.set_cons_succ, if_true, if_false, reduceIte, not_false_eq_true, ne_lt0, ne_lt1, ne_lt2, ne_lt3, ne_lt4, cs]; rfl) | (simp only [sel, rst, List.cons_append, List.nil_append, World.size_alloc, size_ext, World.size_setCell, size_setMap, World.size_drew, size_drewN, upd, List.set_cons_zero, List.set_cons_succ, if_true, if_false, reduceIte, not_false_eq_true, ne_lt0, ne_lt1, ne_lt2, ne_lt3, ne_lt4]; rfl)
              case measure => simp [intOf]; omega
            | some p =>
              have cs := O.facts
              simp only [factsP, cellsP, roomP, foots_cons, foots_nil, foots_append, foot_pt, ptb, ptb_mapA, foot_mapA, factsP_mapA, foot_bun, List.append_nil, List.nil_append, List.cons_append, List.nodup_cons, List.nodup_nil, List.mem_cons, List.not_mem_nil, List.mem_singleton, List.forall_mem_cons, not_or, not_false_eq_true, and_true, true_and, or_false, false_or, forall_eq_or_imp, forall_eq, implies_true, Nat.zero_add, Nat.reduceAdd, and_assoc, factsP_mapA, ptb_mapA, ptb_listA, factsP_listA, Nat.mul_one, intCells, changeCells] at cs
              have v1 := (O.ptCell (b := bb) (cs := bs.map Value.bool) (t := 45) (by simp) HFL.out)
              try simp only [cellsQ, roomP, and_assoc, and_true, true_and, Nat.add_zero, Nat.zero_add, Nat.reduceAdd, factsP, cellsP, roomP, foots_cons, foots_nil, foots_append, foot_pt, ptb, ptb_mapA, foot_mapA, factsP_mapA, foot_bun, List.append_nil, List.nil_append, List.cons_append, List.nodup_cons, List.nodup_nil, List.mem_cons, List.not_mem_nil, List.mem_singleton, List.forall_mem_cons, not_or, not_false_eq_true, and_true, true_and, or_false, false_or, forall_eq_or_imp, forall_eq, implies_true, Nat.zero_add, Nat.reduceAdd, and_assoc, factsP_mapA, ptb_mapA, ptb_listA, factsP_listA, Nat.mul_one, intCells, changeCells] at v1
              go_wp2_with fail
              first | apply Mem.atCall | apply Mem.atCode | apply Mem.atList
              case h => repeat' (first | (with_reducible exact O) | (with_reducible apply Mem.drew) | (with_reducible apply Mem.drewN) | (with_reducible apply Mem.ext) | (with_reducible apply Mem.alloc) | (with_reducible apply Mem.setCell) | (simp only [ptb, ptb_upd, foots_cons, List.mem_cons, World.size_alloc, size_ext, World.size_setCell, true_or, or_true, eq_self_iff_true, ptb_mapA, ptb_listA]))
              case' k =>
                intro x3 O'
                (try clear O)
                have O := O'
                clear O'
                (first | simp only [sel, rst, List.cons_append, List.nil_append, World.size_alloc, size_ext, World.size_setCell, size_setMap, World.size_drew, size_drewN, upd, List.set_cons_zero, List.set_cons_succ, if_true, if_false, reduceIte, not_false_eq_true, ne_lt0, ne_lt1, ne_lt2, ne_lt3, ne_lt4, cs] at O | simp only [sel, rst, List.cons_append, List.nil_append, World.size_alloc, size_ext, World.size_setCell, size_setMap, World.size_drew, size_drewN, upd, List.set_cons_zero, List.set_cons_succ, if_true, if_false, reduceIte, not_false_eq_true, ne_lt0, ne_lt1, ne_lt2, ne_lt3, ne_lt4] at O | skip)
                (try clear cs)
                (try clear v1)
                (try clear v2)
                (try clear v3)
              refine (d_Leave x3 db mb 8 m (O.pre [false, false, true, true]) P HPB.out p hg).mono ?_
              rintro e x4 ⟨rfl, o⟩
              replace O := O.callp [false, false, true, true] o
              clear o
              simp only [detL, put, List.cons_append, List.nil_append] at O
              skip
              have cs := O.facts
              simp only [factsP, cellsP, roomP, foots_cons, foots_nil, foots_append, foot_pt, ptb, ptb_mapA, foot_mapA, factsP_mapA, foot_bun, List.append_nil, List.nil_append, List.cons_append, List.nodup_cons, List.nodup_nil, List.mem_cons, List.not_mem_nil, List.mem_singleton, List.forall_mem_cons, not_or, not_false_eq_true, and_true, true_and, or_false, false_or, forall_eq_or_imp, forall_eq, implies_true, Nat.zero_add, Nat.reduceAdd, and_assoc, factsP_mapA, ptb_mapA, ptb_listA, factsP_listA, Nat.mul_one, intCells, changeCells] at cs
              have v1 := (O.ptCell (b := bb) (cs := bs.map Value.bool) (t := 45) (by simp) HFL.out)
              try simp only [cellsQ, roomP, and_assoc, and_true, true_and, Nat.add_zero, Nat.zero_add, Nat.reduceAdd, factsP, cellsP, roomP, foots_cons, foots_nil, foots_append, foot_pt, ptb, ptb_mapA, foot_mapA, factsP_mapA, foot_bun, List.append_nil, List.nil_append, List.cons_append, List.nodup_cons, List.nodup_nil, List.mem_cons, List.not_mem_nil, List.mem_singleton, List.forall_mem_cons, not_or, not_false_eq_true, and_true, true_and, or_false, false_or, forall_eq_or_imp, forall_eq, implies_true, Nat.zero_add, Nat.reduceAdd, and_assoc, factsP_mapA, ptb_mapA, ptb_listA, factsP_listA, Nat.mul_one, intCells, changeCells] at v1
              go_wp2_with fail
              go_roundw
              case rel =>
                refine ⟨i + 1, n', mdel m P, bs.set P false, by omega, by go_num, rfl, ?_, Lib.hid ⟨HT.out.leave hP12, HN.out.1, HN.out.2.1, HN.out.2.2.1⟩⟩
                rw [List.map_set]
                apply Mem.to [false, true, true, true]
                · repeat' (first | (with_reducible exact O) | (with_reducible apply Mem.drew) | (with_reducible apply Mem.drewN) | (with_reducible apply Mem.ext) | (with_reducible apply Mem.alloc) | (with_reducible apply Mem.setCell) | (simp only [ptb, ptb_upd, foots_cons, List.mem_cons, World.size_alloc, size_ext, World.size_setCell, true_or, or_true, eq_self_iff_true, ptb_mapA, ptb_listA]))
                · first | with_reducible rfl | (simp only [sel, rst, List.cons_append, List.nil_append, World.size_alloc, size_ext, World.size_setCell, size_setMap, World.size_drew, size_drewN, upd, List.set_cons_zero, List.set_cons_succ, if_true, if_false, reduceIte, not_false_eq_true, ne_lt0, ne_lt1, ne_lt2, ne_lt3, ne_lt4, cs]; done) | (simp only [sel, rst, List.cons_append, List.nil_append, World.size_alloc, size_ext, World.size_setCell, size_setMap, World.size_drew, size_drewN, upd, List.set_cons_zero, List.set_cons_succ, if_true, if_false, reduceIte, not_false_eq_true, ne_lt0, ne_lt1, ne_lt2, ne_lt3, ne_lt4]; done) | (simp only [sel, rst, List.cons_append, List.nil_append, World.size_alloc, size_ext, World.size_setCell, size_setMap, World.size_drew, size_drewN, upd, List.set_cons_zero, List.set_cons_succ, if_true, if_false, reduceIte, not_false_eq_true, ne_lt0, ne_lt1, ne_lt2, ne_lt3, ne_lt4, cs]; rfl) | (simp only [sel, rst, List.cons_append, List.nil_append, World.size_alloc, size_ext, World.size_setCell, size_setMap, World.size_drew, size_drewN, upd, List.set_cons_zero, List.set_cons_succ, if_true, if_false, reduceIte, not_false_eq_true, ne_lt0, ne_lt1, ne_lt2, ne_lt3, ne_lt4]; rfl)
              case measure => simp [intOf]; omega
          by_cases k3 : ok = 3
          · subst k3
            cases hg : mget m (P : Int) with
            | none =>
              skip
              have cs := O.facts
              simp only [factsP, cellsP, roomP, foots_cons, foots_nil, foots_append, foot_pt, ptb, ptb_mapA, foot_mapA, factsP_mapA, foot_bun, List.append_nil, List.nil_append, List.cons_append, List.nodup_cons, List.nodup_nil, List.mem_cons, List.not_mem_nil, List.mem_singleton, List.forall_mem_cons, not_or, not_false_eq_true, and_true, true_and, or_false, false_or, forall_eq_or_imp, forall_eq, implies_true, Nat.zero_add, Nat.reduceAdd, and_assoc, factsP_mapA, ptb_mapA, ptb_listA, factsP_listA, Nat.mul_one, intCells, changeCells] at cs
              go_wp2_with fail
              first | apply Mem.atCall | apply Mem.atCode | apply Mem.atList
              case h => repeat' (first | (with_reducible exact O) | (with_reducible apply Mem.drew) | (with_reducible apply Mem.drewN) | (with_reducible apply Mem.ext) | (with_reducible apply Mem.alloc) | (with_reducible apply Mem.setCell) | (simp only [ptb, ptb_upd, foots_cons, List.mem_cons, World.size_alloc, size_ext, World.size_setCell, true_or, or_true, eq_self_iff_true, ptb_mapA, ptb_listA]))
              case' k =>
                intro x3 O'
                (try clear O)
                have O := O'
                clear O'
                (first | simp only [sel, rst, List.cons_append, List.nil_append, World.size_alloc, size_ext, World.size_setCell, size_setMap, World.size_drew, size_drewN, upd, List.set_cons_zero, List.set_cons_succ, if_true, if_false, reduceIte, not_false_eq_true, ne_lt0, ne_lt1, ne_lt2, ne_lt3, ne_lt4, cs] at O | simp only [sel, rst, List.cons_append, List.nil_append, World.size_alloc, size_ext, World.size_setCell, size_setMap, World.size_drew, size_drewN, upd, List.set_cons_zero, List.set_cons_succ, if_true, if_false, reduceIte, not_false_eq_true, ne_lt0, ne_lt1, ne_lt2, ne_lt3, ne_lt4] at O | skip)
                (try clear cs)
                (try clear v1)
                (try clear v2)
                (try clear v3)
              refine (d_Beat_none x3 db mb 8 m (O.pre [false, false, true, true]) P n' HPB.out hg).mono ?_
              rintro e x4 ⟨rfl, o⟩
              replace O := O.callp [] o
              clear o
              simp only [put, List.nil_append] at O
              have cs := O.facts
              simp only [factsP, cellsP, roomP, foots_cons, foots_nil, foots_append, foot_pt, ptb, ptb_mapA, foot_mapA, factsP_mapA, foot_bun, List.append_nil, List.nil_append, List.cons_append, List.nodup_cons, List.nodup_nil, List.mem_cons, List.not_mem_nil, List.mem_singleton, List.forall_mem_cons, not_or, not_false_eq_true, and_true, true_and, or_false, false_or, forall_eq_or_imp, forall_eq, implies_true, Nat.zero_add, Nat.reduceAdd, and_assoc, factsP_mapA, ptb_mapA, ptb_listA, factsP_listA, Nat.mul_one, intCells, changeCells] at cs
              go_wp2_with fail
              go_roundw
              case rel => exact ⟨i + 1, n', m, bs, by omega, by go_num, rfl, O.sel [false, true, true, true], Lib.hid ⟨HT.out, HN.out.1, HN.out.2.1, HN.out.2.2.1⟩⟩
              case measure => simp [intOf]; omega
            | some p =>
              skip
              have cs := O.facts
              simp only [factsP, cellsP, roomP, foots_cons, foots_nil, foots_append, foot_pt, ptb, ptb_mapA, foot_mapA, factsP_mapA, foot_bun, List.append_nil, List.nil_append, List.cons_append, List.nodup_cons, List.nodup_nil, List.mem_cons, List.not_mem_nil, List.mem_singleton, List.forall_mem_cons, not_or, not_false_eq_true, and_true, true_and, or_false, false_or, forall_eq_or_imp, forall_eq, implies_true, Nat.zero_add, Nat.reduceAdd, and_assoc, factsP_mapA, ptb_mapA, ptb_listA, factsP_listA, Nat.mul_one, intCells, changeCells] at cs
              go_wp2_with fail
              first | apply Mem.atCall | apply Mem.atCode | apply Mem.atList
              case h => repeat' (first | (with_reducible exact O) | (with_reducible apply Mem.drew) | (with_reducible apply Mem.drewN) | (with_reducible apply Mem.ext) | (with_reducible apply Mem.alloc) | (with_reducible apply Mem.setCell) | (simp only [ptb, ptb_upd, foots_cons, List.mem_cons, World.size_alloc, size_ext, World.size_setCell, true_or, or_true, eq_self_iff_true, ptb_mapA, ptb_listA]))
              case' k =>
                intro x3 O'
                (try clear O)
                have O := O'
                clear O'
                (first | simp only [sel, rst, List.cons_append, List.nil_append, World.size_alloc, size_ext, World.size_setCell, size_setMap, World.size_drew, size_drewN, upd, List.set_cons_zero, List.set_cons_succ, if_true, if_false, reduceIte, not_false_eq_true, ne_lt0, ne_lt1, ne_lt2, ne_lt3, ne_lt4, cs] at O | simp only [sel, rst, List.cons_append, List.nil_append, World.size_alloc, size_ext, World.size_setCell, size_setMap, World.size_drew, size_drewN, upd, List.set_cons_zero, List.set_cons_succ, if_true, if_false, reduceIte, not_false_eq_true, ne_lt0, ne_lt1, ne_lt2, ne_lt3, ne_lt4] at O | skip)
                (try clear cs)
                (try clear v1)
                (try clear v2)
                (try clear v3)
              refine (d_Beat x3 db mb 8 m (O.pre [false, false, true, true]) P n' HPB.out p hg (HT.out.ok _ (mget_mem hg)) ⟨HN.out.1, HN.out.2.2.2⟩).mono ?_
              rintro e x4 ⟨rfl, o⟩
              replace O := O.callp [false, false, true, true] o
              clear o
              simp only [detL, put, List.cons_append, List.nil_append] at O
              have cs := O.facts
              simp only [factsP, cellsP, roomP, foots_cons, foots_nil, foots_append, foot_pt, ptb, ptb_mapA, foot_mapA, factsP_mapA, foot_bun, List.append_nil, List.nil_append, List.cons_append, List.nodup_cons, List.nodup_nil, List.mem_cons, List.not_mem_nil, List.mem_singleton, List.forall_mem_cons, not_or, not_false_eq_true, and_true, true_and, or_false, false_or, forall_eq_or_imp, forall_eq, implies_true, Nat.zero_add, Nat.reduceAdd, and_assoc, factsP_mapA, ptb_mapA, ptb_listA, factsP_listA, Nat.mul_one, intCells, changeCells] at cs
              go_wp2_with fail
              go_roundw
              case rel => exact ⟨i + 1, n', _, bs, by omega, by go_num, rfl, O.sel [false, true, true, true], Lib.hid ⟨HT.out.beat HPI.out HTM.out hg, HN.out.1, HN.out.2.1, HN.out.2.2.1⟩⟩
              case measure => simp [intOf]; omega
          have j1 : (ok == 1) = false := by simp [k1]
          have j2 : (ok == 2) = false := by simp [k2]
          have j3 : (ok == 3) = false := by simp [k3]
          clear k1 k2 k3
          skip
          have cs := O.facts
          simp only [factsP, cellsP, roomP, foots_cons, foots_nil, foots_append, foot_pt, ptb, ptb_mapA, foot_mapA, factsP_mapA, foot_bun, List.append_nil, List.nil_append, List.cons_append, List.nodup_cons, List.nodup_nil, List.mem_cons, List.not_mem_nil, List.mem_singleton, List.forall_mem_cons, not_or, not_false_eq_true, and_true, true_and, or_false, false_or, forall_eq_or_imp, forall_eq, implies_true, Nat.zero_add, Nat.reduceAdd, and_assoc, factsP_mapA, ptb_mapA, ptb_listA, factsP_listA, Nat.mul_one, intCells, changeCells] at cs
          go_wp2_with fail
          first | apply Mem.atCall | apply Mem.atCode | apply Mem.atList
          case h => repeat' (first | (with_reducible exact O) | (with_reducible apply Mem.drew) | (with_reducible apply Mem.drewN) | (with_reducible apply Mem.ext) | (with_reducible apply Mem.alloc) | (with_reducible apply Mem.setCell) | (simp only [ptb, ptb_upd, foots_cons, List.mem_cons, World.size_alloc, size_ext, World.size_setCell, true_or, or_true, eq_self_iff_true, ptb_mapA, ptb_listA]))
          case' k =>
            intro x3 O'
            (try clear O)
            have O := O'
            clear O'
            (first | simp only [sel, rst, List.cons_append, List.nil_append, World.size_alloc, size_ext, World.size_setCell, size_setMap, World.size_drew, size_drewN, upd, List.set_cons_zero, List.set_cons_succ, if_true, if_false, reduceIte, not_false_eq_true, ne_lt0, ne_lt1, ne_lt2, ne_lt3, ne_lt4, cs] at O | simp only [sel, rst, List.cons_append, List.nil_append, World.size_alloc, size_ext, World.size_setCell, size_setMap, World.size_drew, size_drewN, upd, List.set_cons_zero, List.set_cons_succ, if_true, if_false, reduceIte, not_false_eq_true, ne_lt0, ne_lt1, ne_lt2, ne_lt3, ne_lt4] at O | skip)
            (try clear cs)
            (try clear v1)
            (try clear v2)
            (try clear v3)
          refine (d_Changes x3 db mb 8 m (O.pre [false, false, true, true]) n' (by have := HT.out.size; omega) HT.out.ok HT.out.keyOk).mono ?_
          rintro e x4 ⟨A, c, rfl, o⟩
          obtain ⟨c1, c2, c3, c4, c5⟩ := HT.out.changed HTM.out
          have c6 := HT.out.quiet HTM.out
          have c7 : suspects9 (changes9 m n').1 n' = ((List.range 12).filter (fun k => (flagsOf m n' bs).getD k false)).map (fun k : Nat => (k : Int)) := c2.suspects HTM.out (fun k hk => by
            rw [c3 k hk, c4]
            cases mget m (k : Int) <;> rfl)
          have c8 : ∀ k c, (changes9 m n').2[k]? = some c → 0 ≤ c.1 ∧ c.1 < 12 ∧ (((changes9 m n').2.take k).foldl setF bs)[c.1.toNat]? = some (!c.2) := fun k c hk => by
            rw [c1] at hk ⊢
            exact HT.out.told hk
          have c9 : flagsOf m n' bs = (changes9 m n').2.foldl setF bs := by rw [c1]; rfl
          have c10 : (changes9 m n').2.length ≤ 1000 := by
            rw [c1]
            refine Nat.le_trans (List.length_filterMap_le _ _) ?_
            rw [List.length_mergeSort]
            have := HT.out.size
            simp [keysOf]; omega
          rw [c9] at c2 c7
          generalize (changes9 m n').1 = m' at *
          generalize (changes9 m n').2 = out at *
          have C2 := Lib.hid c2
          have C6 := Lib.hid c6
          have C7 := Lib.hid c7
          have C8 := Lib.hid c8
          clear c1 c2 c3 c4 c5 c6 c7 c8 c9
          replace O := O.callp [false, false, true, true] o
          clear o
          simp only [detL, put, List.cons_append, List.nil_append] at O
          have cs := O.facts
          simp only [factsP, cellsP, roomP, foots_cons, foots_nil, foots_append, foot_pt, ptb, ptb_mapA, foot_mapA, factsP_mapA, foot_bun, List.append_nil, List.nil_append, List.cons_append, List.nodup_cons, List.nodup_nil, List.mem_cons, List.not_mem_nil, List.mem_singleton, List.forall_mem_cons, not_or, not_false_eq_true, and_true, true_and, or_false, false_or, forall_eq_or_imp, forall_eq, implies_true, Nat.zero_add, Nat.reduceAdd, and_assoc, factsP_mapA, ptb_mapA, ptb_listA, factsP_listA, Nat.mul_one, intCells, changeCells] at cs
          go_wp2_with fail
          clear cs
          go_loopw [13] (fun s13 wr => ∃ (k : Nat), k ≤ out.length ∧ s13 = .int .i64 k ∧ Mem w [] wr [.pt ob [.int .i64 ok, .int .i64 op, .int .i64 oa, .bool orw] 43, .pt bb (((out.take k).foldl setF bs).map Value.bool) 45, listA 50 2 changeCells A c out, .pt db [.int .i64 8, .map (some mb)] 56, mapA intK Peer.val mb m']) (fun s13 _ => out.length - (intOf s13).toNat)
          case atStart => exact ⟨0, by omega, rfl, O⟩
          case round =>
            clear O
            obtain ⟨k, hk, rfl, O⟩ := hrel
            by_cases hlt2 : k < out.length
            · have hlt2i : (k : Int) < out.length := by omega
              obtain ⟨⟨ci, cb⟩, hc⟩ : ∃ c, out[k]? = some c := ⟨_, List.getElem?_eq_getElem hlt2⟩
              obtain ⟨d1, d2, d3⟩ := C8.out k _ hc
              simp only at d1 d2 d3
              obtain ⟨j, rfl⟩ := Int.eq_ofNat_of_zero_le d1
              rw [Int.toNat_natCast] at d3
              have hset : (out.take (k + 1)).foldl setF bs = ((out.take k).foldl setF bs).set j cb := by
                rw [List.take_succ_eq_append_getElem hlt2, List.foldl_append]
                rw [List.getElem?_eq_getElem hlt2] at hc
                injection hc with hc
                rw [hc]
                simp [setF]
              obtain ⟨g, hg, _⟩ := listA_get (cs := changeCells) (fun _ => rfl) (O.hold (listA 50 2 changeCells A c out) (by simp)) hc
              subst hg
              have HSET := Lib.hid hset
              have HCK := Lib.hid hc
              have hd3 : (((out.take k).foldl setF bs).map Value.bool)[j]? = some (Value.bool (!cb)) := by rw [List.getElem?_map, d3]; rfl
              have HD3 := Lib.hid hd3
              have j0 : ¬ (j : Int) < 0 := by omega
              have j11 : ¬ 11 < (j : Int) := by omega
              have j12 : (j : Int) < 12 := by omega
              clear hset hc hd3 d3 d1 d2
              generalize (out.take k).foldl setF bs = F at *
              skip
              cases cb
              all_goals
                simp only [Bool.not_false, Bool.not_true] at HD3
                have cs := O.facts
                simp only [factsP, cellsP, roomP, foots_cons, foots_nil, foots_append, foot_pt, ptb, ptb_mapA, foot_mapA, factsP_mapA, foot_bun, List.append_nil, List.nil_append, List.cons_append, List.nodup_cons, List.nodup_nil, List.mem_cons, List.not_mem_nil, List.mem_singleton, List.forall_mem_cons, not_or, not_false_eq_true, and_true, true_and, or_false, false_or, forall_eq_or_imp, forall_eq, implies_true, Nat.zero_add, Nat.reduceAdd, and_assoc, factsP_mapA, ptb_mapA, ptb_listA, factsP_listA, Nat.mul_one, intCells, changeCells] at cs
                have v1 := (listA_at (cs := changeCells) (fun _ => rfl) (O.hold (listA 50 2 changeCells (some ⟨g, 0, none⟩) c out) (by simp)) HCK.out)
                try simp only [cellsQ, roomP, and_assoc, and_true, true_and, Nat.add_zero, Nat.zero_add, Nat.reduceAdd, factsP, cellsP, roomP, foots_cons, foots_nil, foots_append, foot_pt, ptb, ptb_mapA, foot_mapA, factsP_mapA, foot_bun, List.append_nil, List.nil_append, List.cons_append, List.nodup_cons, List.nodup_nil, List.mem_cons, List.not_mem_nil, List.mem_singleton, List.forall_mem_cons, not_or, not_false_eq_true, and_true, true_and, or_false, false_or, forall_eq_or_imp, forall_eq, implies_true, Nat.zero_add, Nat.reduceAdd, and_assoc, factsP_mapA, ptb_mapA, ptb_listA, factsP_listA, Nat.mul_one, intCells, changeCells] at v1
                have v2 := (O.ptCell (b := bb) (cs := F.map Value.bool) (t := 45) (by simp) HD3.out)
                try simp only [cellsQ, roomP, and_assoc, and_true, true_and, Nat.add_zero, Nat.zero_add, Nat.reduceAdd, factsP, cellsP, roomP, foots_cons, foots_nil, foots_append, foot_pt, ptb, ptb_mapA, foot_mapA, factsP_mapA, foot_bun, List.append_nil, List.nil_append, List.cons_append, List.nodup_cons, List.nodup_nil, List.mem_cons, List.not_mem_nil, List.mem_singleton, List.forall_mem_cons, not_or, not_false_eq_true, and_true, true_and, or_false, false_or, forall_eq_or_imp, forall_eq, implies_true, Nat.zero_add, Nat.reduceAdd, and_assoc, factsP_mapA, ptb_mapA, ptb_listA, factsP_listA, Nat.mul_one, intCells, changeCells] at v2
                go_upto_region 23 with fail
                apply region_quiet_mem (by kernel_rfl) (by kernel_rfl)
                case O => repeat' (first | (with_reducible exact O) | (with_reducible apply Mem.drew) | (with_reducible apply Mem.drewN) | (with_reducible apply Mem.ext) | (with_reducible apply Mem.alloc) | (with_reducible apply Mem.setCell) | (simp only [ptb, ptb_upd, foots_cons, List.mem_cons, World.size_alloc, size_ext, World.size_setCell, true_or, or_true, eq_self_iff_true, ptb_mapA, ptb_listA]))
                case' h =>
                  intro y1 O'
                  (try clear O)
                  have O := O'
                  clear O'
                  (first | simp only [sel, rst, List.cons_append, List.nil_append, World.size_alloc, size_ext, World.size_setCell, size_setMap, World.size_drew, size_drewN, upd, List.set_cons_zero, List.set_cons_succ, if_true, if_false, reduceIte, not_false_eq_true, ne_lt0, ne_lt1, ne_lt2, ne_lt3, ne_lt4, cs] at O | simp only [sel, rst, List.cons_append, List.nil_append, World.size_alloc, size_ext, World.size_setCell, size_setMap, World.size_drew, size_drewN, upd, List.set_cons_zero, List.set_cons_succ, if_true, if_false, reduceIte, not_false_eq_true, ne_lt0, ne_lt1, ne_lt2, ne_lt3, ne_lt4] at O | skip)
                  (try clear cs)
                  (try clear v1)
                  (try clear v2)
                  (try clear v3)
                have cs := O.facts
                simp only [factsP, cellsP, roomP, foots_cons, foots_nil, foots_append, foot_pt, ptb, ptb_mapA, foot_mapA, factsP_mapA, foot_bun, List.append_nil, List.nil_append, List.cons_append, List.nodup_cons, List.nodup_nil, List.mem_cons, List.not_mem_nil, List.mem_singleton, List.forall_mem_cons, not_or, not_false_eq_true, and_true, true_and, or_false, false_or, forall_eq_or_imp, forall_eq, implies_true, Nat.zero_add, Nat.reduceAdd, and_assoc, factsP_mapA, ptb_mapA, ptb_listA, factsP_listA, Nat.mul_one, intCells, changeCells] at cs
                have v1 := (listA_at (cs := changeCells) (fun _ => rfl) (O.hold (listA 50 2 changeCells (some ⟨g, 0, none⟩) c out) (by simp)) HCK.out)
                try simp only [cellsQ, roomP, and_assoc, and_true, true_and, Nat.add_zero, Nat.zero_add, Nat.reduceAdd, factsP, cellsP, roomP, foots_cons, foots_nil, foots_append, foot_pt, ptb, ptb_mapA, foot_mapA, factsP_mapA, foot_bun, List.append_nil, List.nil_append, List.cons_append, List.nodup_cons, List.nodup_nil, List.mem_cons, List.not_mem_nil, List.mem_singleton, List.forall_mem_cons, not_or, not_false_eq_true, and_true, true_and, or_false, false_or, forall_eq_or_imp, forall_eq, implies_true, Nat.zero_add, Nat.reduceAdd, and_assoc, factsP_mapA, ptb_mapA, ptb_listA, factsP_listA, Nat.mul_one, intCells, changeCells] at v1
                have v2 := (O.ptCell (b := bb) (cs := F.map Value.bool) (t := 45) (by simp) HD3.out)
                try simp only [cellsQ, roomP, and_assoc, and_true, true_and, Nat.add_zero, Nat.zero_add, Nat.reduceAdd, factsP, cellsP, roomP, foots_cons, foots_nil, foots_append, foot_pt, ptb, ptb_mapA, foot_mapA, factsP_mapA, foot_bun, List.append_nil, List.nil_append, List.cons_append, List.nodup_cons, List.nodup_nil, List.mem_cons, List.not_mem_nil, List.mem_singleton, List.forall_mem_cons, not_or, not_false_eq_true, and_true, true_and, or_false, false_or, forall_eq_or_imp, forall_eq, implies_true, Nat.zero_add, Nat.reduceAdd, and_assoc, factsP_mapA, ptb_mapA, ptb_listA, factsP_listA, Nat.mul_one, intCells, changeCells] at v2
                repeat (go_big_quiet_step ((fail)))
                refine wpQuiet_nil ?_
                intro y2 hq
                (try clear cs)
                (try clear v1)
                (try clear v2)
                (try clear v3)
                replace O := O.qext hq
                clear hq
                have cs := O.facts
                simp only [factsP, cellsP, roomP, foots_cons, foots_nil, foots_append, foot_pt, ptb, ptb_mapA, foot_mapA, factsP_mapA, foot_bun, List.append_nil, List.nil_append, List.cons_append, List.nodup_cons, List.nodup_nil, List.mem_cons, List.not_mem_nil, List.mem_singleton, List.forall_mem_cons, not_or, not_false_eq_true, and_true, true_and, or_false, false_or, forall_eq_or_imp, forall_eq, implies_true, Nat.zero_add, Nat.reduceAdd, and_assoc, factsP_mapA, ptb_mapA, ptb_listA, factsP_listA, Nat.mul_one, intCells, changeCells] at cs
                have v1 := (listA_at (cs := changeCells) (fun _ => rfl) (O.hold (listA 50 2 changeCells (some ⟨g, 0, none⟩) c out) (by simp)) HCK.out)
                try simp only [cellsQ, roomP, and_assoc, and_true, true_and, Nat.add_zero, Nat.zero_add, Nat.reduceAdd, factsP, cellsP, roomP, foots_cons, foots_nil, foots_append, foot_pt, ptb, ptb_mapA, foot_mapA, factsP_mapA, foot_bun, List.append_nil, List.nil_append, List.cons_append, List.nodup_cons, List.nodup_nil, List.mem_cons, List.not_mem_nil, List.mem_singleton, List.forall_mem_cons, not_or, not_false_eq_true, and_true, true_and, or_false, false_or, forall_eq_or_imp, forall_eq, implies_true, Nat.zero_add, Nat.reduceAdd, and_assoc, factsP_mapA, ptb_mapA, ptb_listA, factsP_listA, Nat.mul_one, intCells, changeCells] at v1
                have v2 := (O.ptCell (b := bb) (cs := F.map Value.bool) (t := 45) (by simp) HD3.out)
                try simp only [cellsQ, roomP, and_assoc, and_true, true_and, Nat.add_zero, Nat.zero_add, Nat.reduceAdd, factsP, cellsP, roomP, foots_cons, foots_nil, foots_append, foot_pt, ptb, ptb_mapA, foot_mapA, factsP_mapA, foot_bun, List.append_nil, List.nil_append, List.cons_append, List.nodup_cons, List.nodup_nil, List.mem_cons, List.not_mem_nil, List.mem_singleton, List.forall_mem_cons, not_or, not_false_eq_true, and_true, true_and, or_false, false_or, forall_eq_or_imp, forall_eq, implies_true, Nat.zero_add, Nat.reduceAdd, and_assoc, factsP_mapA, ptb_mapA, ptb_listA, factsP_listA, Nat.mul_one, intCells, changeCells] at v2
                go_upto_region 25 with fail
                first | apply Mem.atCall | apply Mem.atCode | apply Mem.atList
                case h => repeat' (first | (with_reducible exact O) | (with_reducible apply Mem.drew) | (with_reducible apply Mem.drewN) | (with_reducible apply Mem.ext) | (with_reducible apply Mem.alloc) | (with_reducible apply Mem.setCell) | (simp only [ptb, ptb_upd, foots_cons, List.mem_cons, World.size_alloc, size_ext, World.size_setCell, true_or, or_true, eq_self_iff_true, ptb_mapA, ptb_listA]))
                case' k =>
                  intro y3 O'
                  (try clear O)
                  have O := O'
                  clear O'
                  (first | simp only [sel, rst, List.cons_append, List.nil_append, World.size_alloc, size_ext, World.size_setCell, size_setMap, World.size_drew, size_drewN, upd, List.set_cons_zero, List.set_cons_succ, if_true, if_false, reduceIte, not_false_eq_true, ne_lt0, ne_lt1, ne_lt2, ne_lt3, ne_lt4, cs] at O | simp only [sel, rst, List.cons_append, List.nil_append, World.size_alloc, size_ext, World.size_setCell, size_setMap, World.size_drew, size_drewN, upd, List.set_cons_zero, List.set_cons_succ, if_true, if_false, reduceIte, not_false_eq_true, ne_lt0, ne_lt1, ne_lt2, ne_lt3, ne_lt4] at O | skip)
                  (try clear cs)
                  (try clear v1)
                  (try clear v2)
                  (try clear v3)
                apply region_last_mem (by kernel_rfl) (by kernel_rfl)
                case O => repeat' (first | (with_reducible exact O) | (with_reducible apply Mem.drew) | (with_reducible apply Mem.drewN) | (with_reducible apply Mem.ext) | (with_reducible apply Mem.alloc) | (with_reducible apply Mem.setCell) | (simp only [ptb, ptb_upd, foots_cons, List.mem_cons, World.size_alloc, size_ext, World.size_setCell, true_or, or_true, eq_self_iff_true, ptb_mapA, ptb_listA]))
                case' h =>
                  intro y4 O'
                  (try clear O)
                  have O := O'
                  clear O'
                  (first | simp only [sel, rst, List.cons_append, List.nil_append, World.size_alloc, size_ext, World.size_setCell, size_setMap, World.size_drew, size_drewN, upd, List.set_cons_zero, List.set_cons_succ, if_true, if_false, reduceIte, not_false_eq_true, ne_lt0, ne_lt1, ne_lt2, ne_lt3, ne_lt4, cs] at O | simp only [sel, rst, List.cons_append, List.nil_append, World.size_alloc, size_ext, World.size_setCell, size_setMap, World.size_drew, size_drewN, upd, List.set_cons_zero, List.set_cons_succ, if_true, if_false, reduceIte, not_false_eq_true, ne_lt0, ne_lt1, ne_lt2, ne_lt3, ne_lt4] at O | skip)
                  (try clear cs)
                  (try clear v1)
                  (try clear v2)
                  (try clear v3)
                simp only [List.length_cons, List.length_nil, Nat.reduceAdd, Nat.reduceSub, List.take_succ_cons, List.take_zero, List.drop_succ_cons, List.drop_zero]
                have cs := O.facts
                simp only [factsP, cellsP, roomP, foots_cons, foots_nil, foots_append, foot_pt, ptb, ptb_mapA, foot_mapA, factsP_mapA, foot_bun, List.append_nil, List.nil_append, List.cons_append, List.nodup_cons, List.nodup_nil, List.mem_cons, List.not_mem_nil, List.mem_singleton, List.forall_mem_cons, not_or, not_false_eq_true, and_true, true_and, or_false, false_or, forall_eq_or_imp, forall_eq, implies_true, Nat.zero_add, Nat.reduceAdd, and_assoc, factsP_mapA, ptb_mapA, ptb_listA, factsP_listA, Nat.mul_one, intCells, changeCells] at cs
                have v1 := (listA_at (cs := changeCells) (fun _ => rfl) (O.hold (listA 50 2 changeCells (some ⟨g, 0, none⟩) c out) (by simp)) HCK.out)
                try simp only [cellsQ, roomP, and_assoc, and_true, true_and, Nat.add_zero, Nat.zero_add, Nat.reduceAdd, factsP, cellsP, roomP, foots_cons, foots_nil, foots_append, foot_pt, ptb, ptb_mapA, foot_mapA, factsP_mapA, foot_bun, List.append_nil, List.nil_append, List.cons_append, List.nodup_cons, List.nodup_nil, List.mem_cons, List.not_mem_nil, List.mem_singleton, List.forall_mem_cons, not_or, not_false_eq_true, and_true, true_and, or_false, false_or, forall_eq_or_imp, forall_eq, implies_true, Nat.zero_add, Nat.reduceAdd, and_assoc, factsP_mapA, ptb_mapA, ptb_listA, factsP_listA, Nat.mul_one, intCells, changeCells] at v1
                have v2 := (O.ptCell (b := bb) (cs := F.map Value.bool) (t := 45) (by simp) HD3.out)
                try simp only [cellsQ, roomP, and_assoc, and_true, true_and, Nat.add_zero, Nat.zero_add, Nat.reduceAdd, factsP, cellsP, roomP, foots_cons, foots_nil, foots_append, foot_pt, ptb, ptb_mapA, foot_mapA, factsP_mapA, foot_bun, List.append_nil, List.nil_append, List.cons_append, List.nodup_cons, List.nodup_nil, List.mem_cons, List.not_mem_nil, List.mem_singleton, List.forall_mem_cons, not_or, not_false_eq_true, and_true, true_and, or_false, false_or, forall_eq_or_imp, forall_eq, implies_true, Nat.zero_add, Nat.reduceAdd, and_assoc, factsP_mapA, ptb_mapA, ptb_listA, factsP_listA, Nat.mul_one, intCells, changeCells] at v2
                repeat still_step
                refine wpStill_nil ?_
                go_upto_region 22 with fail
                (try clear cs)
                (try clear v1)
                (try clear v2)
                (try clear v3)
                have cs := O.facts
                simp only [factsP, cellsP, roomP, foots_cons, foots_nil, foots_append, foot_pt, ptb, ptb_mapA, foot_mapA, factsP_mapA, foot_bun, List.append_nil, List.nil_append, List.cons_append, List.nodup_cons, List.nodup_nil, List.mem_cons, List.not_mem_nil, List.mem_singleton, List.forall_mem_cons, not_or, not_false_eq_true, and_true, true_and, or_false, false_or, forall_eq_or_imp, forall_eq, implies_true, Nat.zero_add, Nat.reduceAdd, and_assoc, factsP_mapA, ptb_mapA, ptb_listA, factsP_listA, Nat.mul_one, intCells, changeCells] at cs
                have v1 := (listA_at (cs := changeCells) (fun _ => rfl) (O.hold (listA 50 2 changeCells (some ⟨g, 0, none⟩) c out) (by simp)) HCK.out)
                try simp only [cellsQ, roomP, and_assoc, and_true, true_and, Nat.add_zero, Nat.zero_add, Nat.reduceAdd, factsP, cellsP, roomP, foots_cons, foots_nil, foots_append, foot_pt, ptb, ptb_mapA, foot_mapA, factsP_mapA, foot_bun, List.append_nil, List.nil_append, List.cons_append, List.nodup_cons, List.nodup_nil, List.mem_cons, List.not_mem_nil, List.mem_singleton, List.forall_mem_cons, not_or, not_false_eq_true, and_true, true_and, or_false, false_or, forall_eq_or_imp, forall_eq, implies_true, Nat.zero_add, Nat.reduceAdd, and_assoc, factsP_mapA, ptb_mapA, ptb_listA, factsP_listA, Nat.mul_one, intCells, changeCells] at v1
                have v2 := (O.ptCell (b := bb) (cs := F.map Value.bool) (t := 45) (by simp) HD3.out)
                try simp only [cellsQ, roomP, and_assoc, and_true, true_and, Nat.add_zero, Nat.zero_add, Nat.reduceAdd, factsP, cellsP, roomP, foots_cons, foots_nil, foots_append, foot_pt, ptb, ptb_mapA, foot_mapA, factsP_mapA, foot_bun, List.append_nil, List.nil_append, List.cons_append, List.nodup_cons, List.nodup_nil, List.mem_cons, List.not_mem_nil, List.mem_singleton, List.forall_mem_cons, not_or, not_false_eq_true, and_true, true_and, or_false, false_or, forall_eq_or_imp, forall_eq, implies_true, Nat.zero_add, Nat.reduceAdd, and_assoc, factsP_mapA, ptb_mapA, ptb_listA, factsP_listA, Nat.mul_one, intCells, changeCells] at v2
                go_wp2_with fail
                go_roundw
                case rel =>
                  refine ⟨k + 1, by omega, by go_num, ?_⟩
                  rw [HSET.out, List.map_set]
                  apply Mem.to [true, true, true, true, true]
                  · repeat' (first | (with_reducible exact O) | (with_reducible apply Mem.drew) | (with_reducible apply Mem.drewN) | (with_reducible apply Mem.ext) | (with_reducible apply Mem.alloc) | (with_reducible apply Mem.setCell) | (simp only [ptb, ptb_upd, foots_cons, List.mem_cons, World.size_alloc, size_ext, World.size_setCell, true_or, or_true, eq_self_iff_true, ptb_mapA, ptb_listA]))
                  · first | with_reducible rfl | (simp only [sel, rst, List.cons_append, List.nil_append, World.size_alloc, size_ext, World.size_setCell, size_setMap, World.size_drew, size_drewN, upd, List.set_cons_zero, List.set_cons_succ, if_true, if_false, reduceIte, not_false_eq_true, ne_lt0, ne_lt1, ne_lt2, ne_lt3, ne_lt4, cs]; done) | (simp only [sel, rst, List.cons_append, List.nil_append, World.size_alloc, size_ext, World.size_setCell, size_setMap, World.size_drew, size_drewN, upd, List.set_cons_zero, List.set_cons_succ, if_true, if_false, reduceIte, not_false_eq_true, ne_lt0, ne_lt1, ne_lt2, ne_lt3, ne_lt4]; done) | (simp only [sel, rst, List.cons_append, List.nil_append, World.size_alloc, size_ext, World.size_setCell, size_setMap, World.size_drew, size_drewN, upd, List.set_cons_zero, List.set_cons_succ, if_true, if_false, reduceIte, not_false_eq_true, ne_lt0, ne_lt1, ne_lt2, ne_lt3, ne_lt4, cs]; rfl) | (simp only [sel, rst, List.cons_append, List.nil_append, World.size_alloc, size_ext, World.size_setCell, size_setMap, World.size_drew, size_drewN, upd, List.set_cons_zero, List.set_cons_succ, if_true, if_false, reduceIte, not_false_eq_true, ne_lt0, ne_lt1, ne_lt2, ne_lt3, ne_lt4]; rfl)
                case measure => simp [intOf]; omega
            · obtain rfl : k = out.length := by omega
              rw [List.take_length] at O
              generalize out.foldl setF bs = bs' at *
              have hbl := C2.out.len
              obtain ⟨f, hf⟩ : ∃ f : Nat → Bool, f = fun k => bs'.getD k false := ⟨_, rfl⟩
              have hcell : ∀ k, k < 12 → (bs'.map Value.bool)[k]? = some (Value.bool (f k)) := fun k hk => by
                rw [List.getElem?_map, List.getElem?_eq_getElem (by omega), hf]
                simp [List.getD_eq_getElem?_getD, List.getElem?_eq_getElem (show k < bs'.length by omega)]
              have hS : suspects9 m' n' = ((List.range 12).filter f).map (fun k : Nat => (k : Int)) := by rw [hf]; exact C7.out
              have HCELL := Lib.hid hcell
              have HS := Lib.hid hS
              clear hbl hf hcell hS hk hlt2
              skip
              have cs := O.facts
              simp only [factsP, cellsP, roomP, foots_cons, foots_nil, foots_append, foot_pt, ptb, ptb_mapA, foot_mapA, factsP_mapA, foot_bun, List.append_nil, List.nil_append, List.cons_append, List.nodup_cons, List.nodup_nil, List.mem_cons, List.not_mem_nil, List.mem_singleton, List.forall_mem_cons, not_or, not_false_eq_true, and_true, true_and, or_false, false_or, forall_eq_or_imp, forall_eq, implies_true, Nat.zero_add, Nat.reduceAdd, and_assoc, factsP_mapA, ptb_mapA, ptb_listA, factsP_listA, Nat.mul_one, intCells, changeCells] at cs
              go_wp2_with fail
              first | apply Mem.atCall | apply Mem.atCode | apply Mem.atList
              case h => repeat' (first | (with_reducible exact O) | (with_reducible apply Mem.drew) | (with_reducible apply Mem.drewN) | (with_reducible apply Mem.ext) | (with_reducible apply Mem.alloc) | (with_reducible apply Mem.setCell) | (simp only [ptb, ptb_upd, foots_cons, List.mem_cons, World.size_alloc, size_ext, World.size_setCell, true_or, or_true, eq_self_iff_true, ptb_mapA, ptb_listA]))
              case' k =>
                intro z1 O'
                (try clear O)
                have O := O'
                clear O'
                (first | simp only [sel, rst, List.cons_append, List.nil_append, World.size_alloc, size_ext, World.size_setCell, size_setMap, World.size_drew, size_drewN, upd, List.set_cons_zero, List.set_cons_succ, if_true, if_false, reduceIte, not_false_eq_true, ne_lt0, ne_lt1, ne_lt2, ne_lt3, ne_lt4, cs] at O | simp only [sel, rst, List.cons_append, List.nil_append, World.size_alloc, size_ext, World.size_setCell, size_setMap, World.size_drew, size_drewN, upd, List.set_cons_zero, List.set_cons_succ, if_true, if_false, reduceIte, not_false_eq_true, ne_lt0, ne_lt1, ne_lt2, ne_lt3, ne_lt4] at O | skip)
                (try clear cs)
                (try clear v1)
                (try clear v2)
                (try clear v3)
              refine (d_Suspects z1 db mb 8 m' (O.pre [false, false, false, true, true]) n' ⟨by have := HN.out; omega, by have := HN.out; omega⟩ (by have := C2.out.size; omega) C2.out.ok C2.out.keyOk).mono ?_
              rintro e z2 ⟨A2, d2, rfl, o⟩
              replace O := O.callp [] o
              clear o
              simp only [put, List.cons_append, List.nil_append] at O
              rw [HS.out] at O ⊢
              obtain ⟨S, hSS⟩ : ∃ S, S = ((List.range 12).filter f).map (fun k : Nat => (k : Int)) := ⟨_, rfl⟩
              rw [← hSS] at O ⊢
              have HSS := Lib.hid hSS
              clear hSS
              have cs := O.facts
              simp only [factsP, cellsP, roomP, foots_cons, foots_nil, foots_append, foot_pt, ptb, ptb_mapA, foot_mapA, factsP_mapA, foot_bun, List.append_nil, List.nil_append, List.cons_append, List.nodup_cons, List.nodup_nil, List.mem_cons, List.not_mem_nil, List.mem_singleton, List.forall_mem_cons, not_or, not_false_eq_true, and_true, true_and, or_false, false_or, forall_eq_or_imp, forall_eq, implies_true, Nat.zero_add, Nat.reduceAdd, and_assoc, factsP_mapA, ptb_mapA, ptb_listA, factsP_listA, Nat.mul_one, intCells, changeCells] at cs
              go_wp2_with fail
              clear cs
              go_loopw [15, 16] (fun s15 s16 wr => ∃ (k n : Nat), k ≤ 12 ∧ s16 = .int .i64 k ∧ s15 = .int .i64 n ∧ n ≤ k ∧ Mem w [] wr [listA 3 1 intCells A2 d2 S, .pt ob [.int .i64 ok, .int .i64 op, .int .i64 oa, .bool orw] 43, .pt bb (bs'.map Value.bool) 45, listA 50 2 changeCells A c out, .pt db [.int .i64 8, .map (some mb)] 56, mapA intK Peer.val mb m'] ∧ Hid (n = ((List.range k).filter f).length)) (fun _ s16 _ => 12 - (intOf s16).toNat)
              case atStart => exact ⟨0, 0, by omega, rfl, rfl, by omega, O, Lib.hid rfl⟩
              case round =>
                clear O
                obtain ⟨k, n, hk, rfl, rfl, hnk, O, HNN⟩ := hrel
                by_cases hk12 : k < 12
                · have hk12i : (k : Int) < 12 := by omega
                  have hce := HCELL.out k hk12
                  have hr1 : ((List.range (k + 1)).filter f).length = ((List.range k).filter f).length + (if f k = true then 1 else 0) := by
                    rw [List.range_succ, List.filter_append, List.length_append]
                    congr 1
                    cases hfk : f k <;> simp [hfk]
                  have HCE := Lib.hid hce
                  have hfa : f k = true → S[n]? = some (k : Int) := fun hfk => by
                    rw [HSS.out, HNN.out, List.getElem?_map, flag_at f hk12 hfk]
                    rfl
                  have HR1 := Lib.hid hr1
                  clear hce hr1
                  generalize f k = fk at HCE HR1 hfa
                  skip
                  cases fk
                  · clear hfa
                    have cs := O.facts
                    simp only [factsP, cellsP, roomP, foots_cons, foots_nil, foots_append, foot_pt, ptb, ptb_mapA, foot_mapA, factsP_mapA, foot_bun, List.append_nil, List.nil_append, List.cons_append, List.nodup_cons, List.nodup_nil, List.mem_cons, List.not_mem_nil, List.mem_singleton, List.forall_mem_cons, not_or, not_false_eq_true, and_true, true_and, or_false, false_or, forall_eq_or_imp, forall_eq, implies_true, Nat.zero_add, Nat.reduceAdd, and_assoc, factsP_mapA, ptb_mapA, ptb_listA, factsP_listA, Nat.mul_one, intCells, changeCells] at cs
                    have v1 := (O.ptCell (b := bb) (cs := bs'.map Value.bool) (t := 45) (by simp) HCE.out)
                    try simp only [cellsQ, roomP, and_assoc, and_true, true_and, Nat.add_zero, Nat.zero_add, Nat.reduceAdd, factsP, cellsP, roomP, foots_cons, foots_nil, foots_append, foot_pt, ptb, ptb_mapA, foot_mapA, factsP_mapA, foot_bun, List.append_nil, List.nil_append, List.cons_append, List.nodup_cons, List.nodup_nil, List.mem_cons, List.not_mem_nil, List.mem_singleton, List.forall_mem_cons, not_or, not_false_eq_true, and_true, true_and, or_false, false_or, forall_eq_or_imp, forall_eq, implies_true, Nat.zero_add, Nat.reduceAdd, and_assoc, factsP_mapA, ptb_mapA, ptb_listA, factsP_listA, Nat.mul_one, intCells, changeCells] at v1
                    go_wp2_with fail
                    go_roundw
                    case rel => exact ⟨k + 1, n, by omega, by go_num, rfl, by omega, O, Lib.hid (by rw [HR1.out, HNN.out]; rfl)⟩
                    case measure => simp [intOf]; omega
                  · have hs := hfa rfl
                    have hns : n < S.length := (List.getElem?_eq_some_iff.1 hs).1
                    have hnsi : ¬ (S.length : Int) ≤ n := by omega
                    obtain ⟨g2, hg2, _⟩ := listA_get (cs := intCells) (fun _ => rfl) (O.hold (listA 3 1 intCells A2 d2 S) (by simp)) hs
                    subst hg2
                    have HSN := Lib.hid hs
                    clear hs hfa
                    have hns2 : (n : Int) < S.length := by omega
                    skip
                    have cs := O.facts
                    simp only [factsP, cellsP, roomP, foots_cons, foots_nil, foots_append, foot_pt, ptb, ptb_mapA, foot_mapA, factsP_mapA, foot_bun, List.append_nil, List.nil_append, List.cons_append, List.nodup_cons, List.nodup_nil, List.mem_cons, List.not_mem_nil, List.mem_singleton, List.forall_mem_cons, not_or, not_false_eq_true, and_true, true_and, or_false, false_or, forall_eq_or_imp, forall_eq, implies_true, Nat.zero_add, Nat.reduceAdd, and_assoc, factsP_mapA, ptb_mapA, ptb_listA, factsP_listA, Nat.mul_one, intCells, changeCells] at cs
                    have v1 := (O.ptCell (b := bb) (cs := bs'.map Value.bool) (t := 45) (by simp) HCE.out)
                    try simp only [cellsQ, roomP, and_assoc, and_true, true_and, Nat.add_zero, Nat.zero_add, Nat.reduceAdd, factsP, cellsP, roomP, foots_cons, foots_nil, foots_append, foot_pt, ptb, ptb_mapA, foot_mapA, factsP_mapA, foot_bun, List.append_nil, List.nil_append, List.cons_append, List.nodup_cons, List.nodup_nil, List.mem_cons, List.not_mem_nil, List.mem_singleton, List.forall_mem_cons, not_or, not_false_eq_true, and_true, true_and, or_false, false_or, forall_eq_or_imp, forall_eq, implies_true, Nat.zero_add, Nat.reduceAdd, and_assoc, factsP_mapA, ptb_mapA, ptb_listA, factsP_listA, Nat.mul_one, intCells, changeCells] at v1
                    have v2 := (listA_at (cs := intCells) (fun _ => rfl) (O.hold (listA 3 1 intCells (some ⟨g2, 0, none⟩) d2 S) (by simp)) HSN.out)
                    try simp only [cellsQ, roomP, and_assoc, and_true, true_and, Nat.add_zero, Nat.zero_add, Nat.reduceAdd, factsP, cellsP, roomP, foots_cons, foots_nil, foots_append, foot_pt, ptb, ptb_mapA, foot_mapA, factsP_mapA, foot_bun, List.append_nil, List.nil_append, List.cons_append, List.nodup_cons, List.nodup_nil, List.mem_cons, List.not_mem_nil, List.mem_singleton, List.forall_mem_cons, not_or, not_false_eq_true, and_true, true_and, or_false, false_or, forall_eq_or_imp, forall_eq, implies_true, Nat.zero_add, Nat.reduceAdd, and_assoc, factsP_mapA, ptb_mapA, ptb_listA, factsP_listA, Nat.mul_one, intCells, changeCells] at v2
                    go_wp2_with fail
                    go_roundw
                    case rel => exact ⟨k + 1, n + 1, by omega, by go_num, by go_num, by omega, O, Lib.hid (by rw [HR1.out, HNN.out]; rfl)⟩
                    case measure => simp [intOf]; omega
                · obtain rfl : k = 12 := by omega
                  have hnS : n = S.length := by rw [HSS.out, HNN.out, List.length_map]
                  subst hnS
                  clear hk hk12 hnk
                  skip
                  have cs := O.facts
                  simp only [factsP, cellsP, roomP, foots_cons, foots_nil, foots_append, foot_pt, ptb, ptb_mapA, foot_mapA, factsP_mapA, foot_bun, List.append_nil, List.nil_append, List.cons_append, List.nodup_cons, List.nodup_nil, List.mem_cons, List.not_mem_nil, List.mem_singleton, List.forall_mem_cons, not_or, not_false_eq_true, and_true, true_and, or_false, false_or, forall_eq_or_imp, forall_eq, implies_true, Nat.zero_add, Nat.reduceAdd, and_assoc, factsP_mapA, ptb_mapA, ptb_listA, factsP_listA, Nat.mul_one, intCells, changeCells] at cs
                  go_wp2_with fail
                  first | apply Mem.atCall | apply Mem.atCode | apply Mem.atList
                  case h => repeat' (first | (with_reducible exact O) | (with_reducible apply Mem.drew) | (with_reducible apply Mem.drewN) | (with_reducible apply Mem.ext) | (with_reducible apply Mem.alloc) | (with_reducible apply Mem.setCell) | (simp only [ptb, ptb_upd, foots_cons, List.mem_cons, World.size_alloc, size_ext, World.size_setCell, true_or, or_true, eq_self_iff_true, ptb_mapA, ptb_listA]))
                  case' k =>
                    intro z3 O'
                    (try clear O)
                    have O := O'
                    clear O'
                    (first | simp only [sel, rst, List.cons_append, List.nil_append, World.size_alloc, size_ext, World.size_setCell, size_setMap, World.size_drew, size_drewN, upd, List.set_cons_zero, List.set_cons_succ, if_true, if_false, reduceIte, not_false_eq_true, ne_lt0, ne_lt1, ne_lt2, ne_lt3, ne_lt4, cs] at O | simp only [sel, rst, List.cons_append, List.nil_append, World.size_alloc, size_ext, World.size_setCell, size_setMap, World.size_drew, size_drewN, upd, List.set_cons_zero, List.set_cons_succ, if_true, if_false, reduceIte, not_false_eq_true, ne_lt0, ne_lt1, ne_lt2, ne_lt3, ne_lt4] at O | skip)
                    (try clear cs)
                    (try clear v1)
                    (try clear v2)
                    (try clear v3)
                  refine (d_Changes z3 db mb 8 m' (O.pre [false, false, false, false, true, true]) n' (by have := C2.out.size; omega) C2.out.ok C2.out.keyOk).mono ?_
                  rintro e z4 ⟨A3, c3, rfl, o⟩
                  rw [C6.out] at o ⊢
                  obtain ⟨q1, q2, _⟩ := C2.out.changed HTM.out
                  have hfl : flagsOf m' n' bs' = bs' := by unfold flagsOf; rw [← q1, C6.out]; rfl
                  rw [hfl] at q2
                  have HQ2 := Lib.hid q2
                  clear q1 q2 hfl
                  generalize (changes9 m' n').1 = m2 at o HQ2
                  replace O := O.callp [false, false, false, false, true, true] o
                  clear o
                  simp only [detL, put, List.cons_append, List.nil_append] at O
                  have cs := O.facts
                  simp only [factsP, cellsP, roomP, foots_cons, foots_nil, foots_append, foot_pt, ptb, ptb_mapA, foot_mapA, factsP_mapA, foot_bun, List.append_nil, List.nil_append, List.cons_append, List.nodup_cons, List.nodup_nil, List.mem_cons, List.not_mem_nil, List.mem_singleton, List.forall_mem_cons, not_or, not_false_eq_true, and_true, true_and, or_false, false_or, forall_eq_or_imp, forall_eq, implies_true, Nat.zero_add, Nat.reduceAdd, and_assoc, factsP_mapA, ptb_mapA, ptb_listA, factsP_listA, Nat.mul_one, intCells, changeCells] at cs
                  go_wp2_with fail
                  go_roundw
                  case rel => exact ⟨i + 1, n', m2, bs', by omega, by go_num, rfl, O.sel [false, false, true, false, false, true, true], Lib.hid ⟨HQ2.out, HN.out.1, HN.out.2.1, HN.out.2.2.1⟩⟩
                  case measure => simp [intOf]; omega
end Go.Proofs.Ytobiodbdnpcanaa
