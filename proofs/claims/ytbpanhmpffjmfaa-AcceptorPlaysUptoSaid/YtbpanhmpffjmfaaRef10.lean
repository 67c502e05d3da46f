/- WALKS: the document's table of an acceptor (tontineref10): a slice of rows; it comes to the same plain functions on lists. -/
import Derived.Test.YtbpanhmpffjmfaaAccMem
import Derived.Test.YtbpanhmpffjmfaaList
set_option linter.unusedVariables false
set_option linter.unusedSimpArgs false
namespace Go.Proofs.Ytbpanhmpffjmfaa
open Go.RowKit Go.Tk

def rowCells (p : Inst × Row) : List Value := [.int .u64 p.1.tx, .int .i64 p.1.b, .int .i64 p.1.r, .int .u32 p.1.ix, .int .u32 p.2.p.r, .int .u8 p.2.p.n, .bool p.2.a.is, .int .u32 p.2.a.b.r, .int .u8 p.2.a.b.n, .string p.2.a.v]
theorem rowCells_len (p : Inst × Row) : (rowCells p).length = 10 := rfl
theorem rowCells_one (p : Inst × Row) : ∀ u ∈ rowCells p, u.oneCell' = true := by intro u hu; simp [rowCells] at hu; rcases hu with rfl | rfl | rfl | rfl | rfl | rfl | rfl | rfl | rfl | rfl <;> rfl
/-- the parts of a table of the document's -/
def refL (tb : Nat) (most : Int) (A : Option Addr) (c : Nat) (m : Rows10) : List Asn := [.pt tb [.int .i64 most, .slice A m.length c] 50, listA 69 10 rowCells A c m]
/-- where an instance stands; below 0: nowhere -/
def findI (m : Rows10) (i : Inst) : Nat := m.findIdx (fun p => decide (p.1 = i))
theorem findI_le (m : Rows10) (i : Inst) : findI m i ≤ m.length := List.findIdx_le_length
theorem findI_none {m : Rows10} {i : Inst} : findI m i = m.length ↔ mget m i = none := by
  unfold findI mget
  rw [Option.map_eq_none_iff, List.find?_eq_none, List.findIdx_eq_length]
  simp
theorem findI_some {m : Rows10} {i : Inst} (h : findI m i < m.length) : ∃ r, m[findI m i]? = some (i, r) ∧ mget m i = some r := by
  unfold findI at *
  have h1 := List.findIdx_getElem (w := h)
  simp only [decide_eq_true_eq] at h1
  refine ⟨(m[m.findIdx (fun p => decide (p.1 = i))]).2, ?_, ?_⟩
  · rw [List.getElem?_eq_getElem h]
    congr 1
    exact Prod.ext h1 rfl
  · unfold mget
    rw [List.find?_eq_getElem?_findIdx, List.getElem?_eq_getElem h]
    rfl
/-- none of the first k is i -/
theorem findI_first {m : Rows10} {i : Inst} {k : Nat} {p : Inst × Row} (hk : m[k]? = some p) (h : ∀ j q, j < k → m[j]? = some q → q.1 ≠ i) (hp : p.1 = i) : findI m i = k := by
  obtain ⟨hlt, rfl⟩ := List.getElem?_eq_some_iff.1 hk
  unfold findI
  rw [List.findIdx_eq hlt]
  refine ⟨by simpa using hp, fun j hj => ?_⟩
  simpa using h j _ hj (List.getElem?_eq_getElem (by omega))
theorem findI_nowhere {m : Rows10} {i : Inst} (h : ∀ j q, j < m.length → m[j]? = some q → q.1 ≠ i) : findI m i = m.length := by
  unfold findI
  rw [List.findIdx_eq_length]
  intro p hp
  obtain ⟨j, hj, rfl⟩ := List.getElem_of_mem hp
  simpa using h j _ hj (List.getElem?_eq_getElem hj)
def findR (m : Rows10) (i : Inst) : Int := if findI m i < m.length then (findI m i : Int) else -1

set_option maxRecDepth 100000 in
set_option maxHeartbeats 4000000 in
theorem ref_Less (a b : Ballot) (w : World) : Calls Try.prog 17 #[a.val, b.val] w (fun e w' => e = .returned (.bool (less a b)) ∧ Mem w [] w' []) := by
  obtain ⟨ar, an⟩ := a
  obtain ⟨br, bn⟩ := b
  obtain ⟨v, hv⟩ : ∃ v, v = less ⟨ar, an⟩ ⟨br, bn⟩ := ⟨_, rfl⟩
  rw [← hv]
  have HV := Lib.hid hv
  clear hv
  simp only [Ballot.val]
  have O : Mem w [] w [] := Mem.begin
  go_enter Try.func17, Try.ntmps17
  by_cases h1 : ar < br
  · go_wp2
    go_ret
    refine ⟨?_, ?_⟩
    · rw [HV.out]; simp [less, h1]
    · apply Mem.to []
      · repeat' (first | (with_reducible exact O) | (with_reducible apply Mem.drew) | (with_reducible apply Mem.drewN) | (with_reducible apply Mem.ext) | (with_reducible apply Mem.alloc) | (with_reducible apply Mem.setCell) | (simp only [ptb, ptb_upd, foots_cons, List.mem_cons, World.size_alloc, size_ext, World.size_setCell, true_or, or_true, eq_self_iff_true]))
      · rfl
  · by_cases h2 : ar = br
    · subst h2
      go_wp2
      go_ret
      refine ⟨?_, ?_⟩
      · rw [HV.out]; simp [less]
      · apply Mem.to []
        · repeat' (first | (with_reducible exact O) | (with_reducible apply Mem.drew) | (with_reducible apply Mem.drewN) | (with_reducible apply Mem.ext) | (with_reducible apply Mem.alloc) | (with_reducible apply Mem.setCell) | (simp only [ptb, ptb_upd, foots_cons, List.mem_cons, World.size_alloc, size_ext, World.size_setCell, true_or, or_true, eq_self_iff_true]))
        · rfl
    · go_wp2
      go_ret
      refine ⟨?_, ?_⟩
      · rw [HV.out]; simp [less, h1, h2]
      · apply Mem.to []
        · repeat' (first | (with_reducible exact O) | (with_reducible apply Mem.drew) | (with_reducible apply Mem.drewN) | (with_reducible apply Mem.ext) | (with_reducible apply Mem.alloc) | (with_reducible apply Mem.setCell) | (simp only [ptb, ptb_upd, foots_cons, List.mem_cons, World.size_alloc, size_ext, World.size_setCell, true_or, or_true, eq_self_iff_true]))
        · rfl

set_option maxRecDepth 100000 in
set_option maxHeartbeats 4000000 in
theorem ref_Find (w : World) (tb : Nat) (most : Int) (A : Option Addr) (c : Nat) (m : Rows10) (i : Inst) (h : Pre w (refL tb most A c m)) (hsz : m.length ≤ 4096) :
    Calls Try.prog 24 #[.pointer (some ⟨tb, 0, none⟩), i.val] w (fun e w' => e = .returned (.int .i64 (findR m i)) ∧ Mem w [] w' []) := by
  have H := Lib.hid h
  clear h
  obtain ⟨b0, hb0⟩ : ∃ b, b = w.heap.size := ⟨_, rfl⟩
  obtain ⟨v, hv⟩ : ∃ v, v = findR m i := ⟨_, rfl⟩
  rw [← hv]
  have HV := Lib.hid hv
  clear hv
  simp only [Inst.val]
  have O : Mem w [] w [] := Mem.begin
  go_enter Try.func24, Try.ntmps24
  go_wp2_with fail
  have HB := Lib.hid hb0
  clear hb0
  go_loopw [5] (fun s5 wr => ∃ k : Nat, k ≤ m.length ∧ s5 = .int .i64 k ∧ Mem w [] wr [.pt w.heap.size [.int .u64 i.tx, .int .i64 i.b, .int .i64 i.r, .int .u32 i.ix] 31] ∧ Hid (∀ j q, j < k → m[j]? = some q → q.1 ≠ i)) (fun s5 _ => m.length - (intOf s5).toNat)
  case atStart =>
    refine ⟨0, by omega, rfl, ?_, Lib.hid (fun j q hj => by omega)⟩
    repeat' (first | (with_reducible exact O) | (with_reducible apply Mem.drew) | (with_reducible apply Mem.drewN) | (with_reducible apply Mem.ext) | (with_reducible apply Mem.alloc) | (with_reducible apply Mem.setCell) | (simp only [ptb, ptb_upd, foots_cons, List.mem_cons, World.size_alloc, size_ext, World.size_setCell, true_or, or_true, eq_self_iff_true]))
  case round =>
    clear O
    obtain ⟨k, hk, rfl, O, HN⟩ := hrel
    by_cases hlt : k < m.length
    case neg =>
      obtain rfl : k = m.length := by omega
      skip
      have cs := O.facts
      simp only [factsP, cellsP, roomP, foots_cons, foots_nil, foots_append, foot_pt, ptb, ptb_mapA, foot_mapA, factsP_mapA, foot_bun, List.append_nil, List.nil_append, List.cons_append, List.nodup_cons, List.nodup_nil, List.mem_cons, List.not_mem_nil, List.mem_singleton, List.forall_mem_cons, not_or, not_false_eq_true, and_true, true_and, or_false, false_or, forall_eq_or_imp, forall_eq, implies_true, Nat.zero_add, Nat.reduceAdd, and_assoc, ptb_listA, factsP_listA, refL, rowCells] at cs
      have v1 := (H.out.view O.fr).facts
      simp only [cellsQ, roomP, and_assoc, and_true, true_and, Nat.add_zero, Nat.zero_add, Nat.reduceAdd, factsP, cellsP, roomP, foots_cons, foots_nil, foots_append, foot_pt, ptb, ptb_mapA, foot_mapA, factsP_mapA, foot_bun, List.append_nil, List.nil_append, List.cons_append, List.nodup_cons, List.nodup_nil, List.mem_cons, List.not_mem_nil, List.mem_singleton, List.forall_mem_cons, not_or, not_false_eq_true, and_true, true_and, or_false, false_or, forall_eq_or_imp, forall_eq, implies_true, Nat.zero_add, Nat.reduceAdd, and_assoc, ptb_listA, factsP_listA, refL, rowCells] at v1
      go_wp2_with fail
      go_ret
      refine ⟨?_, O.fr0⟩
      rw [HV.out]
      simp [findR, findI_nowhere HN.out]
    case pos =>
      obtain ⟨p, hp⟩ : ∃ p, m[k]? = some p := ⟨_, List.getElem?_eq_getElem hlt⟩
      obtain ⟨g, rfl, _⟩ := listA_get rowCells_len (H.out.hold (listA 69 10 rowCells A c m) (by simp [refL])) hp
      skip
      obtain ⟨⟨jx, jb, jr, jy⟩, jr0⟩ := p
      have cs := O.facts
      simp only [factsP, cellsP, roomP, foots_cons, foots_nil, foots_append, foot_pt, ptb, ptb_mapA, foot_mapA, factsP_mapA, foot_bun, List.append_nil, List.nil_append, List.cons_append, List.nodup_cons, List.nodup_nil, List.mem_cons, List.not_mem_nil, List.mem_singleton, List.forall_mem_cons, not_or, not_false_eq_true, and_true, true_and, or_false, false_or, forall_eq_or_imp, forall_eq, implies_true, Nat.zero_add, Nat.reduceAdd, and_assoc, ptb_listA, factsP_listA, refL, rowCells] at cs
      have v1 := (H.out.view O.fr).facts
      simp only [cellsQ, roomP, and_assoc, and_true, true_and, Nat.add_zero, Nat.zero_add, Nat.reduceAdd, factsP, cellsP, roomP, foots_cons, foots_nil, foots_append, foot_pt, ptb, ptb_mapA, foot_mapA, factsP_mapA, foot_bun, List.append_nil, List.nil_append, List.cons_append, List.nodup_cons, List.nodup_nil, List.mem_cons, List.not_mem_nil, List.mem_singleton, List.forall_mem_cons, not_or, not_false_eq_true, and_true, true_and, or_false, false_or, forall_eq_or_imp, forall_eq, implies_true, Nat.zero_add, Nat.reduceAdd, and_assoc, ptb_listA, factsP_listA, refL, rowCells] at v1
      have v2 := (listA_at rowCells_len ((H.out.view O.fr).hold (listA 69 10 rowCells (some ⟨g, 0, none⟩) c m) (by simp [refL])) hp)
      simp only [cellsQ, roomP, and_assoc, and_true, true_and, Nat.add_zero, Nat.zero_add, Nat.reduceAdd, factsP, cellsP, roomP, foots_cons, foots_nil, foots_append, foot_pt, ptb, ptb_mapA, foot_mapA, factsP_mapA, foot_bun, List.append_nil, List.nil_append, List.cons_append, List.nodup_cons, List.nodup_nil, List.mem_cons, List.not_mem_nil, List.mem_singleton, List.forall_mem_cons, not_or, not_false_eq_true, and_true, true_and, or_false, false_or, forall_eq_or_imp, forall_eq, implies_true, Nat.zero_add, Nat.reduceAdd, and_assoc, ptb_listA, factsP_listA, refL, rowCells] at v2
      go_upto_region 4 with fail
      go_cut [24] (fun s24 wc => s24 = .bool (decide ((⟨jx, jb, jr, jy⟩ : Inst) = i)) ∧ Mem w [] wc [.pt w.heap.size [.int .u64 i.tx, .int .i64 i.b, .int .i64 i.r, .int .u32 i.ix] 31])
      case first =>
        have hc : ¬ jx = i.tx ∨ (jx = i.tx ∧ ¬ jb = i.b) ∨ (jx = i.tx ∧ jb = i.b ∧ ¬ jr = i.r) ∨ (jx = i.tx ∧ jb = i.b ∧ jr = i.r ∧ ¬ jy = i.ix) ∨ (jx = i.tx ∧ jb = i.b ∧ jr = i.r ∧ jy = i.ix) := by omega
        have hd : decide ((⟨jx, jb, jr, jy⟩ : Inst) = i) = decide (jx = i.tx ∧ jb = i.b ∧ jr = i.r ∧ jy = i.ix) := by
          congr 1
          cases i
          simp only [Inst.mk.injEq]
        have HD := Lib.hid hd
        clear hd
        rcases hc with h1 | ⟨h1, h2⟩ | ⟨h1, h2, h3⟩ | ⟨h1, h2, h3, h4⟩ | ⟨h1, h2, h3, h4⟩
        all_goals
          apply region_quiet_mem (by kernel_rfl) (by kernel_rfl)
          case O => repeat' (first | (with_reducible exact O) | (with_reducible apply Mem.drew) | (with_reducible apply Mem.drewN) | (with_reducible apply Mem.ext) | (with_reducible apply Mem.alloc) | (with_reducible apply Mem.setCell) | (simp only [ptb, ptb_upd, foots_cons, List.mem_cons, World.size_alloc, size_ext, World.size_setCell, true_or, or_true, eq_self_iff_true]))
          case' h =>
            intro wq O'
            (try clear O)
            have O := O'
            clear O'
            (first | simp only [sel, rst, List.cons_append, List.nil_append, World.size_alloc, size_ext, World.size_setCell, size_setMap, World.size_drew, size_drewN, upd, List.set_cons_zero, List.set_cons_succ, if_true, reduceIte, not_false_eq_true, cs] at O | simp only [sel, rst, List.cons_append, List.nil_append, World.size_alloc, size_ext, World.size_setCell, size_setMap, World.size_drew, size_drewN, upd, List.set_cons_zero, List.set_cons_succ, if_true, reduceIte, not_false_eq_true] at O | skip)
            (try clear cs)
            (try clear v1)
            (try clear v2)
            (try clear v3)
          have cs := O.facts
          simp only [factsP, cellsP, roomP, foots_cons, foots_nil, foots_append, foot_pt, ptb, ptb_mapA, foot_mapA, factsP_mapA, foot_bun, List.append_nil, List.nil_append, List.cons_append, List.nodup_cons, List.nodup_nil, List.mem_cons, List.not_mem_nil, List.mem_singleton, List.forall_mem_cons, not_or, not_false_eq_true, and_true, true_and, or_false, false_or, forall_eq_or_imp, forall_eq, implies_true, Nat.zero_add, Nat.reduceAdd, and_assoc, ptb_listA, factsP_listA, refL, rowCells] at cs
          have v1 := (H.out.view O.fr).facts
          simp only [cellsQ, roomP, and_assoc, and_true, true_and, Nat.add_zero, Nat.zero_add, Nat.reduceAdd, factsP, cellsP, roomP, foots_cons, foots_nil, foots_append, foot_pt, ptb, ptb_mapA, foot_mapA, factsP_mapA, foot_bun, List.append_nil, List.nil_append, List.cons_append, List.nodup_cons, List.nodup_nil, List.mem_cons, List.not_mem_nil, List.mem_singleton, List.forall_mem_cons, not_or, not_false_eq_true, and_true, true_and, or_false, false_or, forall_eq_or_imp, forall_eq, implies_true, Nat.zero_add, Nat.reduceAdd, and_assoc, ptb_listA, factsP_listA, refL, rowCells] at v1
          have v2 := (listA_at rowCells_len ((H.out.view O.fr).hold (listA 69 10 rowCells (some ⟨g, 0, none⟩) c m) (by simp [refL])) hp)
          simp only [cellsQ, roomP, and_assoc, and_true, true_and, Nat.add_zero, Nat.zero_add, Nat.reduceAdd, factsP, cellsP, roomP, foots_cons, foots_nil, foots_append, foot_pt, ptb, ptb_mapA, foot_mapA, factsP_mapA, foot_bun, List.append_nil, List.nil_append, List.cons_append, List.nodup_cons, List.nodup_nil, List.mem_cons, List.not_mem_nil, List.mem_singleton, List.forall_mem_cons, not_or, not_false_eq_true, and_true, true_and, or_false, false_or, forall_eq_or_imp, forall_eq, implies_true, Nat.zero_add, Nat.reduceAdd, and_assoc, ptb_listA, factsP_listA, refL, rowCells] at v2
          repeat (go_big_quiet_step ((fail)))
          refine wpQuiet_nil ?_
          intro wy hq
          (try clear cs)
          (try clear v1)
          (try clear v2)
          (try clear v3)
          replace O := O.qext hq
          clear hq
          go_wp2_with fail
          go_meet
          exact ⟨by rw [HD.out]; simp [*], O⟩
      case rest =>
        clear O cs v1 v2
        obtain ⟨rfl, O⟩ := hcut
        by_cases he : (⟨jx, jb, jr, jy⟩ : Inst) = i
        · have hd := decide_eq_true he
          go_wp2
          go_ret
          refine ⟨?_, O.fr0⟩
          rw [HV.out]
          simp [findR, findI_first hp HN.out he, hlt]
        · have hd := decide_eq_false he
          go_wp2_with fail
          go_roundw
          case rel =>
            refine ⟨k + 1, by omega, by go_num, O, Lib.hid (fun j q hj hq => ?_)⟩
            by_cases e : j = k
            · subst e
              rw [hp] at hq
              injection hq with hq
              subst hq
              exact he
            · exact HN.out j q (by omega) hq
          case measure => simp [intOf]; omega

end Go.Proofs.Ytbpanhmpffjmfaa
