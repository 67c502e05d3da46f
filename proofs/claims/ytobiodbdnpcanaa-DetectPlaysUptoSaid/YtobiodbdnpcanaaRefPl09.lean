/- WALK: the document's detector: Place. -/
import Derived.Test.YtobiodbdnpcanaaRef09
set_option linter.unusedVariables false
set_option linter.unusedSimpArgs false
namespace Go.Proofs.Ytobiodbdnpcanaa
open Go.RowKit Go.Tk
/-- the document's detector in memory: nodes stand in a list -/
def refL (rb : Nat) (g : Int) (A : Option Addr) (c : Nat) (m : List (Int × Peer)) : List Asn := [.pt rb [.int .i64 g, .slice A m.length c] 38, listA 66 5 refCells A c m]
theorem refLen (q : Int × Peer) : (refCells q).length = 5 := rfl
/-- where a node stands; -1 -/
def placeI : List (Int × Peer) → Int → Int
  | [], _ => -1
  | q :: m, id => if q.1 = id then 0 else if placeI m id < 0 then -1 else placeI m id + 1
theorem place_at {id : Int} : ∀ (m : List (Int × Peer)) (k : Nat) (p : Peer), m[k]? = some (id, p) → (∀ j q, j < k → m[j]? = some q → q.1 ≠ id) → placeI m id = k
  | [], k, p, h, _ => by simp at h
  | q :: m, 0, p, h, _ => by
    simp only [List.getElem?_cons_zero, Option.some.injEq] at h
    simp [placeI, h]
  | q :: m, k + 1, p, h, hn => by
    have h0 := hn 0 q (by omega) rfl
    have ih := place_at m k p (by simpa using h) (fun j q' hj hq' => hn (j + 1) q' (by omega) (by simpa using hq'))
    rw [placeI, if_neg h0, ih, if_neg (by omega)]
    omega
theorem place_no {id : Int} : ∀ (m : List (Int × Peer)), (∀ (j : Nat) q, m[j]? = some q → q.1 ≠ id) → placeI m id = -1
  | [], _ => rfl
  | q :: m, hn => by
    rw [placeI, if_neg (hn 0 q rfl), place_no m (fun j q' hq' => hn (j + 1) q' (by simpa using hq'))]
    simp
set_option maxRecDepth 100000 in
set_option maxHeartbeats 4000000 in
theorem r_Place (w : World) (rb : Nat) (g : Int) (A : Option Addr) (c : Nat) (m : List (Int × Peer)) (h : Pre w (refL rb g A c m)) (id : Int) (hsz : m.length ≤ 1000) :
    Calls Try.prog 33 #[.pointer (some ⟨rb, 0, none⟩), .int .i64 id] w (fun e w' => e = .returned (.int .i64 (placeI m id)) ∧ Mem w [] w' []) := by
  have H := Lib.hid h
  clear h
  have O : Mem w [] w [] := Mem.begin
  simp only [refL] at H
  skip
  go_enter Try.func33, Try.ntmps33
  have cs := O.facts
  simp only [factsP, cellsP, roomP, foots_cons, foots_nil, foots_append, foot_pt, ptb, ptb_mapA, foot_mapA, factsP_mapA, foot_bun, List.append_nil, List.nil_append, List.cons_append, List.nodup_cons, List.nodup_nil, List.mem_cons, List.not_mem_nil, List.mem_singleton, List.forall_mem_cons, not_or, not_false_eq_true, and_true, true_and, or_false, false_or, forall_eq_or_imp, forall_eq, implies_true, Nat.zero_add, Nat.reduceAdd, and_assoc, ptb_listA, factsP_listA, Nat.mul_one, refCells] at cs
  have v1 := (H.out.view O.fr).facts
  try simp only [cellsQ, roomP, and_assoc, and_true, true_and, Nat.add_zero, Nat.zero_add, Nat.reduceAdd, factsP, cellsP, roomP, foots_cons, foots_nil, foots_append, foot_pt, ptb, ptb_mapA, foot_mapA, factsP_mapA, foot_bun, List.append_nil, List.nil_append, List.cons_append, List.nodup_cons, List.nodup_nil, List.mem_cons, List.not_mem_nil, List.mem_singleton, List.forall_mem_cons, not_or, not_false_eq_true, and_true, true_and, or_false, false_or, forall_eq_or_imp, forall_eq, implies_true, Nat.zero_add, Nat.reduceAdd, and_assoc, ptb_listA, factsP_listA, Nat.mul_one, refCells] at v1
  go_wp2_with fail
  clear cs
  go_loopw [5] (fun s wr => ∃ k : Nat, k ≤ m.length ∧ s = .int .i64 k ∧ Mem w [] wr [] ∧ Hid (∀ j q, j < k → m[j]? = some q → q.1 ≠ id)) (fun s _ => m.length - (intOf s).toNat)
  case atStart => exact ⟨0, by omega, rfl, O, Lib.hid (fun j q hj _ => by omega)⟩
  case round =>
    clear O
    obtain ⟨k, hk, rfl, O, HN⟩ := hrel
    by_cases hlt : k < m.length
    · have hlti : (k : Int) < m.length := by omega
      obtain ⟨⟨qi, qp⟩, hq⟩ : ∃ q, m[k]? = some q := ⟨_, List.getElem?_eq_getElem hlt⟩
      obtain ⟨gb, hgb, _⟩ := listA_get refLen (H.out.hold (listA 66 5 refCells A c m) (by simp)) hq
      subst hgb
      have HQ := Lib.hid hq
      clear hq
      skip
      by_cases he : qi = id
      · have he' : (qi == id) = true := by simp [he]
        have cs := O.facts
        simp only [factsP, cellsP, roomP, foots_cons, foots_nil, foots_append, foot_pt, ptb, ptb_mapA, foot_mapA, factsP_mapA, foot_bun, List.append_nil, List.nil_append, List.cons_append, List.nodup_cons, List.nodup_nil, List.mem_cons, List.not_mem_nil, List.mem_singleton, List.forall_mem_cons, not_or, not_false_eq_true, and_true, true_and, or_false, false_or, forall_eq_or_imp, forall_eq, implies_true, Nat.zero_add, Nat.reduceAdd, and_assoc, ptb_listA, factsP_listA, Nat.mul_one, refCells] at cs
        have v1 := (H.out.view O.fr).facts
        try simp only [cellsQ, roomP, and_assoc, and_true, true_and, Nat.add_zero, Nat.zero_add, Nat.reduceAdd, factsP, cellsP, roomP, foots_cons, foots_nil, foots_append, foot_pt, ptb, ptb_mapA, foot_mapA, factsP_mapA, foot_bun, List.append_nil, List.nil_append, List.cons_append, List.nodup_cons, List.nodup_nil, List.mem_cons, List.not_mem_nil, List.mem_singleton, List.forall_mem_cons, not_or, not_false_eq_true, and_true, true_and, or_false, false_or, forall_eq_or_imp, forall_eq, implies_true, Nat.zero_add, Nat.reduceAdd, and_assoc, ptb_listA, factsP_listA, Nat.mul_one, refCells] at v1
        have v2 := (listA_at refLen ((H.out.view O.fr).hold (listA 66 5 refCells (some ⟨gb, 0, none⟩) c m) (by simp)) HQ.out)
        try simp only [cellsQ, roomP, and_assoc, and_true, true_and, Nat.add_zero, Nat.zero_add, Nat.reduceAdd, factsP, cellsP, roomP, foots_cons, foots_nil, foots_append, foot_pt, ptb, ptb_mapA, foot_mapA, factsP_mapA, foot_bun, List.append_nil, List.nil_append, List.cons_append, List.nodup_cons, List.nodup_nil, List.mem_cons, List.not_mem_nil, List.mem_singleton, List.forall_mem_cons, not_or, not_false_eq_true, and_true, true_and, or_false, false_or, forall_eq_or_imp, forall_eq, implies_true, Nat.zero_add, Nat.reduceAdd, and_assoc, ptb_listA, factsP_listA, Nat.mul_one, refCells] at v2
        go_wp2_with fail
        go_ret
        have e := place_at m k qp (by rw [← he]; exact HQ.out) HN.out
        exact ⟨by rw [e]; simp, O⟩
      · have he' : (qi == id) = false := by simp [he]
        have cs := O.facts
        simp only [factsP, cellsP, roomP, foots_cons, foots_nil, foots_append, foot_pt, ptb, ptb_mapA, foot_mapA, factsP_mapA, foot_bun, List.append_nil, List.nil_append, List.cons_append, List.nodup_cons, List.nodup_nil, List.mem_cons, List.not_mem_nil, List.mem_singleton, List.forall_mem_cons, not_or, not_false_eq_true, and_true, true_and, or_false, false_or, forall_eq_or_imp, forall_eq, implies_true, Nat.zero_add, Nat.reduceAdd, and_assoc, ptb_listA, factsP_listA, Nat.mul_one, refCells] at cs
        have v1 := (H.out.view O.fr).facts
        try simp only [cellsQ, roomP, and_assoc, and_true, true_and, Nat.add_zero, Nat.zero_add, Nat.reduceAdd, factsP, cellsP, roomP, foots_cons, foots_nil, foots_append, foot_pt, ptb, ptb_mapA, foot_mapA, factsP_mapA, foot_bun, List.append_nil, List.nil_append, List.cons_append, List.nodup_cons, List.nodup_nil, List.mem_cons, List.not_mem_nil, List.mem_singleton, List.forall_mem_cons, not_or, not_false_eq_true, and_true, true_and, or_false, false_or, forall_eq_or_imp, forall_eq, implies_true, Nat.zero_add, Nat.reduceAdd, and_assoc, ptb_listA, factsP_listA, Nat.mul_one, refCells] at v1
        have v2 := (listA_at refLen ((H.out.view O.fr).hold (listA 66 5 refCells (some ⟨gb, 0, none⟩) c m) (by simp)) HQ.out)
        try simp only [cellsQ, roomP, and_assoc, and_true, true_and, Nat.add_zero, Nat.zero_add, Nat.reduceAdd, factsP, cellsP, roomP, foots_cons, foots_nil, foots_append, foot_pt, ptb, ptb_mapA, foot_mapA, factsP_mapA, foot_bun, List.append_nil, List.nil_append, List.cons_append, List.nodup_cons, List.nodup_nil, List.mem_cons, List.not_mem_nil, List.mem_singleton, List.forall_mem_cons, not_or, not_false_eq_true, and_true, true_and, or_false, false_or, forall_eq_or_imp, forall_eq, implies_true, Nat.zero_add, Nat.reduceAdd, and_assoc, ptb_listA, factsP_listA, Nat.mul_one, refCells] at v2
        go_wp2_with fail
        go_roundw
        case rel =>
          refine ⟨k + 1, by omega, by go_num, O, Lib.hid (fun j q hj hm => ?_)⟩
          by_cases hjk : j < k
          · exact HN.out j q hjk hm
          · obtain rfl : j = k := by omega
            have e := HQ.out.symm.trans hm
            injection e with e
            rw [← e]
            exact he
        case measure => simp [intOf]; omega
    · obtain rfl : k = m.length := by omega
      skip
      have cs := O.facts
      simp only [factsP, cellsP, roomP, foots_cons, foots_nil, foots_append, foot_pt, ptb, ptb_mapA, foot_mapA, factsP_mapA, foot_bun, List.append_nil, List.nil_append, List.cons_append, List.nodup_cons, List.nodup_nil, List.mem_cons, List.not_mem_nil, List.mem_singleton, List.forall_mem_cons, not_or, not_false_eq_true, and_true, true_and, or_false, false_or, forall_eq_or_imp, forall_eq, implies_true, Nat.zero_add, Nat.reduceAdd, and_assoc, ptb_listA, factsP_listA, Nat.mul_one, refCells] at cs
      have v1 := (H.out.view O.fr).facts
      try simp only [cellsQ, roomP, and_assoc, and_true, true_and, Nat.add_zero, Nat.zero_add, Nat.reduceAdd, factsP, cellsP, roomP, foots_cons, foots_nil, foots_append, foot_pt, ptb, ptb_mapA, foot_mapA, factsP_mapA, foot_bun, List.append_nil, List.nil_append, List.cons_append, List.nodup_cons, List.nodup_nil, List.mem_cons, List.not_mem_nil, List.mem_singleton, List.forall_mem_cons, not_or, not_false_eq_true, and_true, true_and, or_false, false_or, forall_eq_or_imp, forall_eq, implies_true, Nat.zero_add, Nat.reduceAdd, and_assoc, ptb_listA, factsP_listA, Nat.mul_one, refCells] at v1
      go_wp2_with fail
      go_ret
      have e := place_no (id := id) m (fun j q hq => HN.out j q (List.getElem?_eq_some_iff.1 hq).1 hq)
      exact ⟨by rw [e]; simp, O⟩
end Go.Proofs.Ytobiodbdnpcanaa
