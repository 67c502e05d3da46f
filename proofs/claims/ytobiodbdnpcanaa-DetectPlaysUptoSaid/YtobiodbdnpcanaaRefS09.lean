/- WALKS: the document's detector: Suspects, Changes. -/
import Derived.Test.YtobiodbdnpcanaaRefB09
set_option linter.unusedVariables false
set_option linter.unusedSimpArgs false
namespace Go.Proofs.Ytobiodbdnpcanaa
open Go.RowKit Go.Tk
theorem take_succ_at {α : Type} {m : List α} {k : Nat} {q : α} (h : m[k]? = some q) : m.take (k + 1) = m.take k ++ [q] := by
  have hlt := (List.getElem?_eq_some_iff.1 h).1
  rw [List.take_succ_eq_append_getElem hlt, (List.getElem?_eq_some_iff.1 h).2]
theorem set_same {α : Type} {l : List α} {k : Nat} {a : α} (h : l[k]? = some a) : l.set k a = l := by
  apply List.ext_getElem?
  intro i
  rw [List.getElem?_set]
  by_cases e : k = i
  · subst e
    rw [if_pos rfl, h, if_pos (List.getElem?_eq_some_iff.1 h).1]
  · rw [if_neg e]
set_option maxRecDepth 100000 in
set_option maxHeartbeats 16000000 in
theorem r_Suspects (w : World) (rb : Nat) (g : Int) (A : Option Addr) (c : Nat) (m : List (Int × Peer)) (h : Pre w (refL rb g A c m)) (now : Int) (hsz : m.length ≤ 12) (hok : ∀ q ∈ m, q.2.ok) :
    Calls Try.prog 26 #[.pointer (some ⟨rb, 0, none⟩), .int .i64 now] w (fun e w' => ∃ A' c', e = .returned (.slice A' (suspR m now).length c') ∧ Mem w [] w' [listA 3 1 intCells A' c' (suspR m now)]) := by
  have CT := Lib.hid (fun W => r_Time now W)
  obtain ⟨S, hS⟩ : ∃ S, S = suspR m now := ⟨_, rfl⟩
  rw [← hS]
  unfold suspR at hS
  have O : Mem w [] w [] := Mem.begin
  have H := Lib.hid h
  clear h
  simp only [refL] at H
  obtain ⟨f, hf⟩ : ∃ f : Int × Peer → Bool, f = fun q => timeOk now && badP q.2 now := ⟨_, rfl⟩
  rw [← hf] at hS
  have HF := Lib.hid hf
  have HT := Lib.hid (show timeOk now = true → 0 ≤ now ∧ now ≤ 1099511627776 by simp [timeOk])
  have HO := Lib.hid hok
  have HS := Lib.hid hS
  clear hf hok hS
  generalize timeOk now = tm at *
  skip
  go_enter Try.func26, Try.ntmps26
  have cs := O.facts
  simp only [factsP, cellsP, roomP, foots_cons, foots_nil, foots_append, foot_pt, ptb, ptb_mapA, foot_mapA, factsP_mapA, foot_bun, List.append_nil, List.nil_append, List.cons_append, List.nodup_cons, List.nodup_nil, List.mem_cons, List.not_mem_nil, List.mem_singleton, List.forall_mem_cons, not_or, not_false_eq_true, and_true, true_and, or_false, false_or, forall_eq_or_imp, forall_eq, implies_true, Nat.zero_add, Nat.reduceAdd, and_assoc, ptb_listA, factsP_listA, Nat.mul_one, refCells, intCells, changeCells] at cs
  have v1 := (H.out.view O.fr).facts
  try simp only [cellsQ, roomP, and_assoc, and_true, true_and, Nat.add_zero, Nat.zero_add, Nat.reduceAdd, factsP, cellsP, roomP, foots_cons, foots_nil, foots_append, foot_pt, ptb, ptb_mapA, foot_mapA, factsP_mapA, foot_bun, List.append_nil, List.nil_append, List.cons_append, List.nodup_cons, List.nodup_nil, List.mem_cons, List.not_mem_nil, List.mem_singleton, List.forall_mem_cons, not_or, not_false_eq_true, and_true, true_and, or_false, false_or, forall_eq_or_imp, forall_eq, implies_true, Nat.zero_add, Nat.reduceAdd, and_assoc, ptb_listA, factsP_listA, Nat.mul_one, refCells, intCells, changeCells] at v1
  go_wp2_with fail
  first | apply Mem.atCall | apply Mem.atCode | apply Mem.atList
  case h => repeat' (first | (with_reducible exact O) | (with_reducible apply Mem.drew) | (with_reducible apply Mem.drewN) | (with_reducible apply Mem.ext) | (with_reducible apply Mem.alloc) | (with_reducible apply Mem.setCell) | (simp only [ptb, ptb_upd, foots_cons, List.mem_cons, World.size_alloc, size_ext, World.size_setCell, true_or, or_true, eq_self_iff_true, ptb_listA]))
  case' k =>
    intro w1 O'
    (try clear O)
    have O := O'
    clear O'
    (first | simp only [sel, rst, List.cons_append, List.nil_append, World.size_alloc, size_ext, World.size_setCell, size_setMap, World.size_drew, size_drewN, upd, List.set_cons_zero, List.set_cons_succ, if_true, if_false, reduceIte, not_false_eq_true, ne_lt0, ne_lt1, ne_lt2, ne_lt3, ne_lt4, cs] at O | simp only [sel, rst, List.cons_append, List.nil_append, World.size_alloc, size_ext, World.size_setCell, size_setMap, World.size_drew, size_drewN, upd, List.set_cons_zero, List.set_cons_succ, if_true, if_false, reduceIte, not_false_eq_true, ne_lt0, ne_lt1, ne_lt2, ne_lt3, ne_lt4] at O | skip)
    (try clear cs)
    (try clear v1)
    (try clear v2)
    (try clear v3)
  refine (CT.out _).mono ?_
  rintro e w2 ⟨rfl, o⟩
  replace O := O.callp [] o
  clear o
  simp only [put, List.cons_append, List.nil_append] at O
  have cs := O.facts
  simp only [factsP, cellsP, roomP, foots_cons, foots_nil, foots_append, foot_pt, ptb, ptb_mapA, foot_mapA, factsP_mapA, foot_bun, List.append_nil, List.nil_append, List.cons_append, List.nodup_cons, List.nodup_nil, List.mem_cons, List.not_mem_nil, List.mem_singleton, List.forall_mem_cons, not_or, not_false_eq_true, and_true, true_and, or_false, false_or, forall_eq_or_imp, forall_eq, implies_true, Nat.zero_add, Nat.reduceAdd, and_assoc, ptb_listA, factsP_listA, Nat.mul_one, refCells, intCells, changeCells] at cs
  have v1 := (H.out.view O.fr).facts
  try simp only [cellsQ, roomP, and_assoc, and_true, true_and, Nat.add_zero, Nat.zero_add, Nat.reduceAdd, factsP, cellsP, roomP, foots_cons, foots_nil, foots_append, foot_pt, ptb, ptb_mapA, foot_mapA, factsP_mapA, foot_bun, List.append_nil, List.nil_append, List.cons_append, List.nodup_cons, List.nodup_nil, List.mem_cons, List.not_mem_nil, List.mem_singleton, List.forall_mem_cons, not_or, not_false_eq_true, and_true, true_and, or_false, false_or, forall_eq_or_imp, forall_eq, implies_true, Nat.zero_add, Nat.reduceAdd, and_assoc, ptb_listA, factsP_listA, Nat.mul_one, refCells, intCells, changeCells] at v1
  go_wp2_with fail
  clear cs v1
  go_loopw [5, 7] (fun s5 s7 wr => ∃ (k : Nat) (A' : Option Addr) (c' : Nat) (out : List Int), k ≤ m.length ∧ s7 = .int .i64 k ∧ s5 = .slice A' out.length c' ∧ out.length ≤ k ∧ Mem w [] wr [listA 3 1 intCells A' c' out] ∧ Hid (out = ((m.take k).filter f).map (·.1))) (fun _ s7 _ => m.length - (intOf s7).toNat)
  case atStart => exact ⟨0, none, 0, [], by omega, rfl, rfl, by simp, Mem.listNil O, Lib.hid rfl⟩
  case round =>
    clear O
    obtain ⟨k, A', c', out, hk, rfl, rfl, hol, O, HI⟩ := hrel
    by_cases hlt : k < m.length
    · have hlti : (k : Int) < m.length := by omega
      cases tm
      · have hs : S = [] := by rw [HS.out, HF.out]; simp
        have ho : out = [] := by rw [HI.out, HF.out]; simp
        subst hs ho
        have cs := O.facts
        simp only [factsP, cellsP, roomP, foots_cons, foots_nil, foots_append, foot_pt, ptb, ptb_mapA, foot_mapA, factsP_mapA, foot_bun, List.append_nil, List.nil_append, List.cons_append, List.nodup_cons, List.nodup_nil, List.mem_cons, List.not_mem_nil, List.mem_singleton, List.forall_mem_cons, not_or, not_false_eq_true, and_true, true_and, or_false, false_or, forall_eq_or_imp, forall_eq, implies_true, Nat.zero_add, Nat.reduceAdd, and_assoc, ptb_listA, factsP_listA, Nat.mul_one, refCells, intCells, changeCells] at cs
        have v1 := (H.out.view O.fr).facts
        try simp only [cellsQ, roomP, and_assoc, and_true, true_and, Nat.add_zero, Nat.zero_add, Nat.reduceAdd, factsP, cellsP, roomP, foots_cons, foots_nil, foots_append, foot_pt, ptb, ptb_mapA, foot_mapA, factsP_mapA, foot_bun, List.append_nil, List.nil_append, List.cons_append, List.nodup_cons, List.nodup_nil, List.mem_cons, List.not_mem_nil, List.mem_singleton, List.forall_mem_cons, not_or, not_false_eq_true, and_true, true_and, or_false, false_or, forall_eq_or_imp, forall_eq, implies_true, Nat.zero_add, Nat.reduceAdd, and_assoc, ptb_listA, factsP_listA, Nat.mul_one, refCells, intCells, changeCells] at v1
        go_wp2_with fail
        go_ret
        exact ⟨A', c', by simp, O⟩
      · obtain ⟨⟨qi, p⟩, hq⟩ : ∃ q, m[k]? = some q := ⟨_, List.getElem?_eq_getElem hlt⟩
        have hpo : p.ok := HO.out _ (List.mem_of_getElem? hq)
        have CB := Lib.hid (fun W => r_Bad qi p hpo now (HT.out rfl).1 (HT.out rfl).2 W)
        obtain ⟨gb, rfl, _⟩ := listA_get refLen (H.out.hold (listA 66 5 refCells A c m) (by simp)) hq
        have hfq : f (qi, p) = badP p now := by rw [HF.out]; rfl
        have HTK := Lib.hid (show ((m.take (k + 1)).filter f).map (·.1) = out ++ (if badP p now = true then [qi] else []) by
          rw [take_succ_at hq, List.filter_append, List.map_append, ← HI.out]
          congr 1
          simp only [List.filter_cons, List.filter_nil, hfq]
          split <;> rfl)
        generalize badP p now = bd at *
        have HQ := Lib.hid hq
        clear hq hpo hfq
        obtain ⟨a, b, cc, d⟩ := p
        simp only [refVal] at CB
        skip
        have cs := O.facts
        simp only [factsP, cellsP, roomP, foots_cons, foots_nil, foots_append, foot_pt, ptb, ptb_mapA, foot_mapA, factsP_mapA, foot_bun, List.append_nil, List.nil_append, List.cons_append, List.nodup_cons, List.nodup_nil, List.mem_cons, List.not_mem_nil, List.mem_singleton, List.forall_mem_cons, not_or, not_false_eq_true, and_true, true_and, or_false, false_or, forall_eq_or_imp, forall_eq, implies_true, Nat.zero_add, Nat.reduceAdd, and_assoc, ptb_listA, factsP_listA, Nat.mul_one, refCells, intCells, changeCells] at cs
        have v1 := (H.out.view O.fr).facts
        try simp only [cellsQ, roomP, and_assoc, and_true, true_and, Nat.add_zero, Nat.zero_add, Nat.reduceAdd, factsP, cellsP, roomP, foots_cons, foots_nil, foots_append, foot_pt, ptb, ptb_mapA, foot_mapA, factsP_mapA, foot_bun, List.append_nil, List.nil_append, List.cons_append, List.nodup_cons, List.nodup_nil, List.mem_cons, List.not_mem_nil, List.mem_singleton, List.forall_mem_cons, not_or, not_false_eq_true, and_true, true_and, or_false, false_or, forall_eq_or_imp, forall_eq, implies_true, Nat.zero_add, Nat.reduceAdd, and_assoc, ptb_listA, factsP_listA, Nat.mul_one, refCells, intCells, changeCells] at v1
        have v2 := (listA_at refLen ((H.out.view O.fr).hold (listA 66 5 refCells (some ⟨gb, 0, none⟩) c m) (by simp)) HQ.out)
        try simp only [cellsQ, roomP, and_assoc, and_true, true_and, Nat.add_zero, Nat.zero_add, Nat.reduceAdd, factsP, cellsP, roomP, foots_cons, foots_nil, foots_append, foot_pt, ptb, ptb_mapA, foot_mapA, factsP_mapA, foot_bun, List.append_nil, List.nil_append, List.cons_append, List.nodup_cons, List.nodup_nil, List.mem_cons, List.not_mem_nil, List.mem_singleton, List.forall_mem_cons, not_or, not_false_eq_true, and_true, true_and, or_false, false_or, forall_eq_or_imp, forall_eq, implies_true, Nat.zero_add, Nat.reduceAdd, and_assoc, ptb_listA, factsP_listA, Nat.mul_one, refCells, intCells, changeCells] at v2
        go_wp2_with fail
        first | apply Mem.atCall | apply Mem.atCode | apply Mem.atList
        case h => repeat' (first | (with_reducible exact O) | (with_reducible apply Mem.drew) | (with_reducible apply Mem.drewN) | (with_reducible apply Mem.ext) | (with_reducible apply Mem.alloc) | (with_reducible apply Mem.setCell) | (simp only [ptb, ptb_upd, foots_cons, List.mem_cons, World.size_alloc, size_ext, World.size_setCell, true_or, or_true, eq_self_iff_true, ptb_listA]))
        case' k =>
          intro w3 O'
          (try clear O)
          have O := O'
          clear O'
          (first | simp only [sel, rst, List.cons_append, List.nil_append, World.size_alloc, size_ext, World.size_setCell, size_setMap, World.size_drew, size_drewN, upd, List.set_cons_zero, List.set_cons_succ, if_true, if_false, reduceIte, not_false_eq_true, ne_lt0, ne_lt1, ne_lt2, ne_lt3, ne_lt4, cs] at O | simp only [sel, rst, List.cons_append, List.nil_append, World.size_alloc, size_ext, World.size_setCell, size_setMap, World.size_drew, size_drewN, upd, List.set_cons_zero, List.set_cons_succ, if_true, if_false, reduceIte, not_false_eq_true, ne_lt0, ne_lt1, ne_lt2, ne_lt3, ne_lt4] at O | skip)
          (try clear cs)
          (try clear v1)
          (try clear v2)
          (try clear v3)
        refine (CB.out _).mono ?_
        rintro e w4 ⟨rfl, o⟩
        replace O := O.callp [] o
        clear o
        simp only [put, List.cons_append, List.nil_append] at O
        try simp only [List.append_nil, List.nil_append] at O
        cases bd
        · have cs := O.facts
          simp only [factsP, cellsP, roomP, foots_cons, foots_nil, foots_append, foot_pt, ptb, ptb_mapA, foot_mapA, factsP_mapA, foot_bun, List.append_nil, List.nil_append, List.cons_append, List.nodup_cons, List.nodup_nil, List.mem_cons, List.not_mem_nil, List.mem_singleton, List.forall_mem_cons, not_or, not_false_eq_true, and_true, true_and, or_false, false_or, forall_eq_or_imp, forall_eq, implies_true, Nat.zero_add, Nat.reduceAdd, and_assoc, ptb_listA, factsP_listA, Nat.mul_one, refCells, intCells, changeCells] at cs
          have v1 := (H.out.view O.fr).facts
          try simp only [cellsQ, roomP, and_assoc, and_true, true_and, Nat.add_zero, Nat.zero_add, Nat.reduceAdd, factsP, cellsP, roomP, foots_cons, foots_nil, foots_append, foot_pt, ptb, ptb_mapA, foot_mapA, factsP_mapA, foot_bun, List.append_nil, List.nil_append, List.cons_append, List.nodup_cons, List.nodup_nil, List.mem_cons, List.not_mem_nil, List.mem_singleton, List.forall_mem_cons, not_or, not_false_eq_true, and_true, true_and, or_false, false_or, forall_eq_or_imp, forall_eq, implies_true, Nat.zero_add, Nat.reduceAdd, and_assoc, ptb_listA, factsP_listA, Nat.mul_one, refCells, intCells, changeCells] at v1
          have v2 := (listA_at refLen ((H.out.view O.fr).hold (listA 66 5 refCells (some ⟨gb, 0, none⟩) c m) (by simp)) HQ.out)
          try simp only [cellsQ, roomP, and_assoc, and_true, true_and, Nat.add_zero, Nat.zero_add, Nat.reduceAdd, factsP, cellsP, roomP, foots_cons, foots_nil, foots_append, foot_pt, ptb, ptb_mapA, foot_mapA, factsP_mapA, foot_bun, List.append_nil, List.nil_append, List.cons_append, List.nodup_cons, List.nodup_nil, List.mem_cons, List.not_mem_nil, List.mem_singleton, List.forall_mem_cons, not_or, not_false_eq_true, and_true, true_and, or_false, false_or, forall_eq_or_imp, forall_eq, implies_true, Nat.zero_add, Nat.reduceAdd, and_assoc, ptb_listA, factsP_listA, Nat.mul_one, refCells, intCells, changeCells] at v2
          go_wp2_with fail
          go_roundw
          case rel => exact ⟨k + 1, A', c', out, by omega, by go_num, rfl, by omega, O, Lib.hid (by rw [HTK.out]; simp)⟩
          case measure => simp [intOf]; omega
        · have cs := O.facts
          simp only [factsP, cellsP, roomP, foots_cons, foots_nil, foots_append, foot_pt, ptb, ptb_mapA, foot_mapA, factsP_mapA, foot_bun, List.append_nil, List.nil_append, List.cons_append, List.nodup_cons, List.nodup_nil, List.mem_cons, List.not_mem_nil, List.mem_singleton, List.forall_mem_cons, not_or, not_false_eq_true, and_true, true_and, or_false, false_or, forall_eq_or_imp, forall_eq, implies_true, Nat.zero_add, Nat.reduceAdd, and_assoc, ptb_listA, factsP_listA, Nat.mul_one, refCells, intCells, changeCells] at cs
          have v1 := (H.out.view O.fr).facts
          try simp only [cellsQ, roomP, and_assoc, and_true, true_and, Nat.add_zero, Nat.zero_add, Nat.reduceAdd, factsP, cellsP, roomP, foots_cons, foots_nil, foots_append, foot_pt, ptb, ptb_mapA, foot_mapA, factsP_mapA, foot_bun, List.append_nil, List.nil_append, List.cons_append, List.nodup_cons, List.nodup_nil, List.mem_cons, List.not_mem_nil, List.mem_singleton, List.forall_mem_cons, not_or, not_false_eq_true, and_true, true_and, or_false, false_or, forall_eq_or_imp, forall_eq, implies_true, Nat.zero_add, Nat.reduceAdd, and_assoc, ptb_listA, factsP_listA, Nat.mul_one, refCells, intCells, changeCells] at v1
          have v2 := (listA_at refLen ((H.out.view O.fr).hold (listA 66 5 refCells (some ⟨gb, 0, none⟩) c m) (by simp)) HQ.out)
          try simp only [cellsQ, roomP, and_assoc, and_true, true_and, Nat.add_zero, Nat.zero_add, Nat.reduceAdd, factsP, cellsP, roomP, foots_cons, foots_nil, foots_append, foot_pt, ptb, ptb_mapA, foot_mapA, factsP_mapA, foot_bun, List.append_nil, List.nil_append, List.cons_append, List.nodup_cons, List.nodup_nil, List.mem_cons, List.not_mem_nil, List.mem_singleton, List.forall_mem_cons, not_or, not_false_eq_true, and_true, true_and, or_false, false_or, forall_eq_or_imp, forall_eq, implies_true, Nat.zero_add, Nat.reduceAdd, and_assoc, ptb_listA, factsP_listA, Nat.mul_one, refCells, intCells, changeCells] at v2
          go_wp2_with ((at_builtin; refine intTy.wl_app ((O.alloc (intCells qi) 3).front1 [false, true] rfl) rfl rfl rfl rfl [qi] rfl rfl (src_one (x := qi) (fun _ => rfl) (O.alloc (intCells qi) 3) (List.mem_cons_self ..)) (by simp; omega) ?_; intro A2 c2 w7 O4; have cs1 := O4.facts; simp only [rst, factsP, cellsP, roomP, foots_cons, foots_nil, foots_append, foot_pt, ptb, ptb_mapA, foot_mapA, factsP_mapA, foot_bun, List.append_nil, List.nil_append, List.cons_append, List.nodup_cons, List.nodup_nil, List.mem_cons, List.not_mem_nil, List.mem_singleton, List.forall_mem_cons, not_or, not_false_eq_true, and_true, true_and, or_false, false_or, forall_eq_or_imp, forall_eq, implies_true, Nat.zero_add, Nat.reduceAdd, and_assoc, ptb_listA, factsP_listA, Nat.mul_one, refCells, intCells, changeCells] at cs1))
          clear cs O
          have cs := cs1
          clear cs1
          have O := O4.unfront
          simp only [put, List.cons_append, List.nil_append] at O
          clear O4
          go_roundw
          case rel => exact ⟨k + 1, A2, c2, out ++ [qi], by omega, by go_num, by simp, by simp; omega, O.sel [false, true], Lib.hid (by rw [HTK.out]; simp)⟩
          case measure => simp [intOf]; omega
    · obtain rfl : k = m.length := by omega
      have hi := HI.out
      rw [List.take_length, ← HS.out] at hi
      subst hi
      clear HS
      skip
      have cs := O.facts
      simp only [factsP, cellsP, roomP, foots_cons, foots_nil, foots_append, foot_pt, ptb, ptb_mapA, foot_mapA, factsP_mapA, foot_bun, List.append_nil, List.nil_append, List.cons_append, List.nodup_cons, List.nodup_nil, List.mem_cons, List.not_mem_nil, List.mem_singleton, List.forall_mem_cons, not_or, not_false_eq_true, and_true, true_and, or_false, false_or, forall_eq_or_imp, forall_eq, implies_true, Nat.zero_add, Nat.reduceAdd, and_assoc, ptb_listA, factsP_listA, Nat.mul_one, refCells, intCells, changeCells] at cs
      have v1 := (H.out.view O.fr).facts
      try simp only [cellsQ, roomP, and_assoc, and_true, true_and, Nat.add_zero, Nat.zero_add, Nat.reduceAdd, factsP, cellsP, roomP, foots_cons, foots_nil, foots_append, foot_pt, ptb, ptb_mapA, foot_mapA, factsP_mapA, foot_bun, List.append_nil, List.nil_append, List.cons_append, List.nodup_cons, List.nodup_nil, List.mem_cons, List.not_mem_nil, List.mem_singleton, List.forall_mem_cons, not_or, not_false_eq_true, and_true, true_and, or_false, false_or, forall_eq_or_imp, forall_eq, implies_true, Nat.zero_add, Nat.reduceAdd, and_assoc, ptb_listA, factsP_listA, Nat.mul_one, refCells, intCells, changeCells] at v1
      go_wp2_with fail
      go_ret
      exact ⟨A', c', by simp, O⟩
set_option maxRecDepth 100000 in
set_option maxHeartbeats 16000000 in
theorem r_Changes (w : World) (rb : Nat) (g : Int) (A : Option Addr) (c : Nat) (m : List (Int × Peer)) (h : Pre w (refL rb g A c m)) (now : Int) (hsz : m.length ≤ 12) (hok : ∀ q ∈ m, q.2.ok) :
    Calls Try.prog 28 #[.pointer (some ⟨rb, 0, none⟩), .int .i64 now] w (fun e w' => ∃ A' c', e = .returned (.slice A' (changesR m now).2.length c') ∧ Mem w (foots (refL rb g A c m)) w' (listA 50 2 changeCells A' c' (changesR m now).2 :: refL rb g A c (changesR m now).1)) := by
  have CT := Lib.hid (fun W => r_Time now W)
  obtain ⟨S, hS⟩ : ∃ S, S = changesR m now := ⟨_, rfl⟩
  rw [← hS]
  unfold changesR at hS
  obtain ⟨fp, hfp⟩ : ∃ F, F = foots (refL rb g A c m) := ⟨_, rfl⟩
  have O : Mem w fp w (refL rb g A c m) := by rw [hfp]; exact h
  rw [← hfp]
  clear hfp h
  simp only [refL] at O ⊢
  have HT := Lib.hid (show timeOk now = true → 0 ≤ now ∧ now ≤ 1099511627776 by simp [timeOk])
  have HO := Lib.hid hok
  have HS := Lib.hid hS
  clear hok hS
  generalize timeOk now = tm at *
  skip
  go_enter Try.func28, Try.ntmps28
  have cs := O.facts
  simp only [factsP, cellsP, roomP, foots_cons, foots_nil, foots_append, foot_pt, ptb, ptb_mapA, foot_mapA, factsP_mapA, foot_bun, List.append_nil, List.nil_append, List.cons_append, List.nodup_cons, List.nodup_nil, List.mem_cons, List.not_mem_nil, List.mem_singleton, List.forall_mem_cons, not_or, not_false_eq_true, and_true, true_and, or_false, false_or, forall_eq_or_imp, forall_eq, implies_true, Nat.zero_add, Nat.reduceAdd, and_assoc, ptb_listA, factsP_listA, Nat.mul_one, refCells, intCells, changeCells] at cs
  go_wp2_with fail
  first | apply Mem.atCall | apply Mem.atCode | apply Mem.atList
  case h => repeat' (first | (with_reducible exact O) | (with_reducible apply Mem.drew) | (with_reducible apply Mem.drewN) | (with_reducible apply Mem.ext) | (with_reducible apply Mem.alloc) | (with_reducible apply Mem.setCell) | (simp only [ptb, ptb_upd, foots_cons, List.mem_cons, World.size_alloc, size_ext, World.size_setCell, true_or, or_true, eq_self_iff_true, ptb_listA]))
  case' k =>
    intro w1 O'
    (try clear O)
    have O := O'
    clear O'
    (first | simp only [sel, rst, List.cons_append, List.nil_append, World.size_alloc, size_ext, World.size_setCell, size_setMap, World.size_drew, size_drewN, upd, List.set_cons_zero, List.set_cons_succ, if_true, if_false, reduceIte, not_false_eq_true, ne_lt0, ne_lt1, ne_lt2, ne_lt3, ne_lt4, cs] at O | simp only [sel, rst, List.cons_append, List.nil_append, World.size_alloc, size_ext, World.size_setCell, size_setMap, World.size_drew, size_drewN, upd, List.set_cons_zero, List.set_cons_succ, if_true, if_false, reduceIte, not_false_eq_true, ne_lt0, ne_lt1, ne_lt2, ne_lt3, ne_lt4] at O | skip)
    (try clear cs)
    (try clear v1)
    (try clear v2)
    (try clear v3)
  refine (CT.out _).mono ?_
  rintro e w2 ⟨rfl, o⟩
  replace O := O.callp [] o
  clear o
  simp only [put, List.cons_append, List.nil_append] at O
  try simp only [List.nil_append] at O
  have cs := O.facts
  simp only [factsP, cellsP, roomP, foots_cons, foots_nil, foots_append, foot_pt, ptb, ptb_mapA, foot_mapA, factsP_mapA, foot_bun, List.append_nil, List.nil_append, List.cons_append, List.nodup_cons, List.nodup_nil, List.mem_cons, List.not_mem_nil, List.mem_singleton, List.forall_mem_cons, not_or, not_false_eq_true, and_true, true_and, or_false, false_or, forall_eq_or_imp, forall_eq, implies_true, Nat.zero_add, Nat.reduceAdd, and_assoc, ptb_listA, factsP_listA, Nat.mul_one, refCells, intCells, changeCells] at cs
  go_wp2_with fail
  clear cs
  go_loopw [5, 7] (fun s5 s7 wr => ∃ (k : Nat) (A' : Option Addr) (c' : Nat) (out : List (Int × Bool)), k ≤ m.length ∧ s7 = .int .i64 k ∧ s5 = .slice A' out.length c' ∧ out.length ≤ k ∧ (tm = false → k = 0) ∧ Mem w fp wr [listA 50 2 changeCells A' c' out, .pt rb [.int .i64 g, .slice A m.length c] 38, listA 66 5 refCells A c ((m.take k).map (tellOne now) ++ m.drop k)] ∧ Hid (out = (m.take k).filterMap (chOne now))) (fun _ s7 _ => m.length - (intOf s7).toNat)
  case atStart => exact ⟨0, none, 0, [], by omega, rfl, rfl, by simp, fun _ => rfl, Mem.listNil O, Lib.hid rfl⟩
  case round =>
    clear O
    obtain ⟨k, A', c', out, hk, rfl, rfl, hol, hz, O, HI⟩ := hrel
    by_cases hlt : k < m.length
    · have hlti : (k : Int) < m.length := by omega
      cases tm
      · obtain rfl := hz rfl
        have hs := HS.out
        have hi := HI.out
        simp only [Bool.false_eq_true, if_false] at hs
        simp only [List.take_zero, List.filterMap_nil, List.map_nil, List.nil_append, List.drop_zero] at hi O
        subst hs hi
        clear HS HI
        have cs := O.facts
        simp only [factsP, cellsP, roomP, foots_cons, foots_nil, foots_append, foot_pt, ptb, ptb_mapA, foot_mapA, factsP_mapA, foot_bun, List.append_nil, List.nil_append, List.cons_append, List.nodup_cons, List.nodup_nil, List.mem_cons, List.not_mem_nil, List.mem_singleton, List.forall_mem_cons, not_or, not_false_eq_true, and_true, true_and, or_false, false_or, forall_eq_or_imp, forall_eq, implies_true, Nat.zero_add, Nat.reduceAdd, and_assoc, ptb_listA, factsP_listA, Nat.mul_one, refCells, intCells, changeCells] at cs
        go_wp2_with fail
        go_ret
        exact ⟨A', c', by simp, O⟩
      · clear hz
        obtain ⟨⟨qi, p⟩, hq⟩ : ∃ q, m[k]? = some q := ⟨_, List.getElem?_eq_getElem hlt⟩
        have hpo : p.ok := HO.out _ (List.mem_of_getElem? hq)
        have CB := Lib.hid (fun W => r_Bad qi p hpo now (HT.out rfl).1 (HT.out rfl).2 W)
        have hq2 : ((m.take k).map (tellOne now) ++ m.drop k)[k]? = some (qi, p) := by
          rw [List.getElem?_append_right (by simp; omega)]
          simp only [List.length_map, List.length_take, Nat.min_eq_left hk, Nat.sub_self]
          rw [List.getElem?_drop]
          simpa using hq
        have hset : ∀ x, x = tellOne now (qi, p) → ((m.take k).map (tellOne now) ++ m.drop k).set k x = (m.take (k + 1)).map (tellOne now) ++ m.drop (k + 1) := fun x hx => by
          rw [hx, List.set_append_right _ _ (by simp; omega), take_succ_at hq, List.map_append, List.append_assoc]
          congr 1
          simp only [List.length_map, List.length_take, Nat.min_eq_left hk, Nat.sub_self]
          rw [List.drop_eq_getElem_cons hlt, List.set_cons_zero]
          rfl
        have hnew : (m.take (k + 1)).filterMap (chOne now) = out ++ (if badP p now = p.told then [] else [(qi, badP p now)]) := by
          rw [take_succ_at hq, List.filterMap_append, ← HI.out]
          congr 1
          simp only [List.filterMap_cons, List.filterMap_nil, chOne]
          split <;> simp_all
        have htell : tellOne now (qi, p) = (qi, ⟨p.last, p.mean, p.margin, badP p now⟩) := rfl
        have hlen2 : ((m.take k).map (tellOne now) ++ m.drop k).length = m.length := by simp; omega
        rw [htell] at hset
        generalize badP p now = bd at *
        generalize (m.take k).map (tellOne now) ++ m.drop k = mm at *
        obtain ⟨gb, rfl, _⟩ := listA_get refLen (O.hold (listA 66 5 refCells A c mm) (by simp)) hq2
        have HQ := Lib.hid hq2
        have HSET := Lib.hid hset
        have HNEW := Lib.hid hnew
        have HLEN := Lib.hid hlen2
        clear hq hpo hq2 hset hnew htell hlen2
        obtain ⟨a, b, cc, d⟩ := p
        simp only [refVal] at CB
        skip
        have cs := O.facts
        simp only [factsP, cellsP, roomP, foots_cons, foots_nil, foots_append, foot_pt, ptb, ptb_mapA, foot_mapA, factsP_mapA, foot_bun, List.append_nil, List.nil_append, List.cons_append, List.nodup_cons, List.nodup_nil, List.mem_cons, List.not_mem_nil, List.mem_singleton, List.forall_mem_cons, not_or, not_false_eq_true, and_true, true_and, or_false, false_or, forall_eq_or_imp, forall_eq, implies_true, Nat.zero_add, Nat.reduceAdd, and_assoc, ptb_listA, factsP_listA, Nat.mul_one, refCells, intCells, changeCells] at cs
        have v1 := (listA_at refLen (O.hold (listA 66 5 refCells (some ⟨gb, 0, none⟩) c mm) (by simp)) HQ.out)
        try simp only [cellsQ, roomP, and_assoc, and_true, true_and, Nat.add_zero, Nat.zero_add, Nat.reduceAdd, factsP, cellsP, roomP, foots_cons, foots_nil, foots_append, foot_pt, ptb, ptb_mapA, foot_mapA, factsP_mapA, foot_bun, List.append_nil, List.nil_append, List.cons_append, List.nodup_cons, List.nodup_nil, List.mem_cons, List.not_mem_nil, List.mem_singleton, List.forall_mem_cons, not_or, not_false_eq_true, and_true, true_and, or_false, false_or, forall_eq_or_imp, forall_eq, implies_true, Nat.zero_add, Nat.reduceAdd, and_assoc, ptb_listA, factsP_listA, Nat.mul_one, refCells, intCells, changeCells] at v1
        go_wp2_with fail
        first | apply Mem.atCall | apply Mem.atCode | apply Mem.atList
        case h => repeat' (first | (with_reducible exact O) | (with_reducible apply Mem.drew) | (with_reducible apply Mem.drewN) | (with_reducible apply Mem.ext) | (with_reducible apply Mem.alloc) | (with_reducible apply Mem.setCell) | (simp only [ptb, ptb_upd, foots_cons, List.mem_cons, World.size_alloc, size_ext, World.size_setCell, true_or, or_true, eq_self_iff_true, ptb_listA]))
        case' k =>
          intro w3 O'
          (try clear O)
          have O := O'
          clear O'
          (first | simp only [sel, rst, List.cons_append, List.nil_append, World.size_alloc, size_ext, World.size_setCell, size_setMap, World.size_drew, size_drewN, upd, List.set_cons_zero, List.set_cons_succ, if_true, if_false, reduceIte, not_false_eq_true, ne_lt0, ne_lt1, ne_lt2, ne_lt3, ne_lt4, cs] at O | simp only [sel, rst, List.cons_append, List.nil_append, World.size_alloc, size_ext, World.size_setCell, size_setMap, World.size_drew, size_drewN, upd, List.set_cons_zero, List.set_cons_succ, if_true, if_false, reduceIte, not_false_eq_true, ne_lt0, ne_lt1, ne_lt2, ne_lt3, ne_lt4] at O | skip)
          (try clear cs)
          (try clear v1)
          (try clear v2)
          (try clear v3)
        refine (CB.out _).mono ?_
        rintro e w4 ⟨rfl, o⟩
        replace O := O.callp [] o
        clear o
        simp only [put, List.cons_append, List.nil_append] at O
        try simp only [List.append_nil, List.nil_append] at O
        by_cases hbd : bd = d
        · subst hbd
          have e1 := HNEW.out
          have e2 := HSET.out _ rfl
          simp only [if_true, List.append_nil] at e1
          rw [set_same HQ.out] at e2
          have hb1 : (bd != bd) = false := by simp
          have HE1 := Lib.hid e1
          have HE2 := Lib.hid e2
          clear HNEW HSET e1 e2
          have cs := O.facts
          simp only [factsP, cellsP, roomP, foots_cons, foots_nil, foots_append, foot_pt, ptb, ptb_mapA, foot_mapA, factsP_mapA, foot_bun, List.append_nil, List.nil_append, List.cons_append, List.nodup_cons, List.nodup_nil, List.mem_cons, List.not_mem_nil, List.mem_singleton, List.forall_mem_cons, not_or, not_false_eq_true, and_true, true_and, or_false, false_or, forall_eq_or_imp, forall_eq, implies_true, Nat.zero_add, Nat.reduceAdd, and_assoc, ptb_listA, factsP_listA, Nat.mul_one, refCells, intCells, changeCells] at cs
          have v1 := (listA_at refLen (O.hold (listA 66 5 refCells (some ⟨gb, 0, none⟩) c mm) (by simp)) HQ.out)
          try simp only [cellsQ, roomP, and_assoc, and_true, true_and, Nat.add_zero, Nat.zero_add, Nat.reduceAdd, factsP, cellsP, roomP, foots_cons, foots_nil, foots_append, foot_pt, ptb, ptb_mapA, foot_mapA, factsP_mapA, foot_bun, List.append_nil, List.nil_append, List.cons_append, List.nodup_cons, List.nodup_nil, List.mem_cons, List.not_mem_nil, List.mem_singleton, List.forall_mem_cons, not_or, not_false_eq_true, and_true, true_and, or_false, false_or, forall_eq_or_imp, forall_eq, implies_true, Nat.zero_add, Nat.reduceAdd, and_assoc, ptb_listA, factsP_listA, Nat.mul_one, refCells, intCells, changeCells] at v1
          go_wp2_with fail
          go_roundw
          case rel =>
            refine ⟨k + 1, A', c', out, by omega, by go_num, rfl, by omega, by simp, ?_, Lib.hid HE1.out.symm⟩
            rw [← HE2.out]
            exact O
          case measure => simp [intOf]; omega
        · have hb1 : (bd != d) = true := by simpa using hbd
          have hb2 : (bd == d) = false := by simpa using hbd
          have e1 := HNEW.out
          rw [if_neg hbd] at e1
          have HE1 := Lib.hid e1
          have HE2 := Lib.hid (HSET.out _ rfl)
          clear HNEW HSET e1
          have cs := O.facts
          simp only [factsP, cellsP, roomP, foots_cons, foots_nil, foots_append, foot_pt, ptb, ptb_mapA, foot_mapA, factsP_mapA, foot_bun, List.append_nil, List.nil_append, List.cons_append, List.nodup_cons, List.nodup_nil, List.mem_cons, List.not_mem_nil, List.mem_singleton, List.forall_mem_cons, not_or, not_false_eq_true, and_true, true_and, or_false, false_or, forall_eq_or_imp, forall_eq, implies_true, Nat.zero_add, Nat.reduceAdd, and_assoc, ptb_listA, factsP_listA, Nat.mul_one, refCells, intCells, changeCells] at cs
          have v1 := (listA_at refLen (O.hold (listA 66 5 refCells (some ⟨gb, 0, none⟩) c mm) (by simp)) HQ.out)
          try simp only [cellsQ, roomP, and_assoc, and_true, true_and, Nat.add_zero, Nat.zero_add, Nat.reduceAdd, factsP, cellsP, roomP, foots_cons, foots_nil, foots_append, foot_pt, ptb, ptb_mapA, foot_mapA, factsP_mapA, foot_bun, List.append_nil, List.nil_append, List.cons_append, List.nodup_cons, List.nodup_nil, List.mem_cons, List.not_mem_nil, List.mem_singleton, List.forall_mem_cons, not_or, not_false_eq_true, and_true, true_and, or_false, false_or, forall_eq_or_imp, forall_eq, implies_true, Nat.zero_add, Nat.reduceAdd, and_assoc, ptb_listA, factsP_listA, Nat.mul_one, refCells, intCells, changeCells] at v1
          go_upto_region 9 with fail
          have O5 := ((O.front1 [false, false, true] rfl).listSet (j := 4) (v := .bool bd) (a' := (qi, ⟨a, b, cc, bd⟩)) refLen HQ.out (by omega) rfl)
          rw [HE2.out] at O5
          replace O5 := O5.perm ((List.Perm.swap _ _ _).trans ((List.Perm.swap _ _ _).cons _))
          simp only [rst] at O5
          refine Mem.atCode O5 ?_
          clear O5 O cs v1
          intro w5 O
          have HQ2 : Hid (((m.take (k + 1)).map (tellOne now) ++ m.drop (k + 1))[k]? = some (qi, ⟨a, b, cc, bd⟩)) := Lib.hid (by rw [← HE2.out, List.getElem?_set, if_pos rfl, if_pos (List.getElem?_eq_some_iff.1 HQ.out).1])
          obtain ⟨mm2, hmm2⟩ : ∃ mm2, (m.take (k + 1)).map (tellOne now) ++ m.drop (k + 1) = mm2 := ⟨_, rfl⟩
          rw [hmm2] at O HQ2
          have HMM2 := Lib.hid hmm2
          clear hmm2
          skip
          have cs := O.facts
          simp only [factsP, cellsP, roomP, foots_cons, foots_nil, foots_append, foot_pt, ptb, ptb_mapA, foot_mapA, factsP_mapA, foot_bun, List.append_nil, List.nil_append, List.cons_append, List.nodup_cons, List.nodup_nil, List.mem_cons, List.not_mem_nil, List.mem_singleton, List.forall_mem_cons, not_or, not_false_eq_true, and_true, true_and, or_false, false_or, forall_eq_or_imp, forall_eq, implies_true, Nat.zero_add, Nat.reduceAdd, and_assoc, ptb_listA, factsP_listA, Nat.mul_one, refCells, intCells, changeCells] at cs
          have v1 := (listA_at refLen (O.hold (listA 66 5 refCells (some ⟨gb, 0, none⟩) c mm2) (by simp)) HQ2.out)
          try simp only [cellsQ, roomP, and_assoc, and_true, true_and, Nat.add_zero, Nat.zero_add, Nat.reduceAdd, factsP, cellsP, roomP, foots_cons, foots_nil, foots_append, foot_pt, ptb, ptb_mapA, foot_mapA, factsP_mapA, foot_bun, List.append_nil, List.nil_append, List.cons_append, List.nodup_cons, List.nodup_nil, List.mem_cons, List.not_mem_nil, List.mem_singleton, List.forall_mem_cons, not_or, not_false_eq_true, and_true, true_and, or_false, false_or, forall_eq_or_imp, forall_eq, implies_true, Nat.zero_add, Nat.reduceAdd, and_assoc, ptb_listA, factsP_listA, Nat.mul_one, refCells, intCells, changeCells] at v1
          go_wp2_with ((at_builtin; refine changeTy.wl_app ((O.alloc (changeCells ((qi, bd))) 50).front1 [false, true] rfl) rfl rfl (by simp) rfl [((qi, bd))] rfl rfl (src_one (x := ((qi, bd) : Int × Bool)) (fun _ => rfl) (O.alloc (changeCells ((qi, bd))) 50) (List.mem_cons_self ..)) (by simp; omega) ?_; intro A2 c2 wc O4; have cs1 := O4.facts; simp only [rst, factsP, cellsP, roomP, foots_cons, foots_nil, foots_append, foot_pt, ptb, ptb_mapA, foot_mapA, factsP_mapA, foot_bun, List.append_nil, List.nil_append, List.cons_append, List.nodup_cons, List.nodup_nil, List.mem_cons, List.not_mem_nil, List.mem_singleton, List.forall_mem_cons, not_or, not_false_eq_true, and_true, true_and, or_false, false_or, forall_eq_or_imp, forall_eq, implies_true, Nat.zero_add, Nat.reduceAdd, and_assoc, ptb_listA, factsP_listA, Nat.mul_one, refCells, intCells, changeCells] at cs1))
          clear cs O
          have cs := cs1
          clear cs1
          have O := O4.unfront
          simp only [put, List.cons_append, List.nil_append] at O
          clear O4
          go_roundw
          case rel =>
            refine ⟨k + 1, A2, c2, out ++ [(qi, bd)], by omega, by go_num, by simp, by simp; omega, by simp, ?_, Lib.hid HE1.out.symm⟩
            rw [HMM2.out]
            exact O.sel [false, true, true, true]
          case measure => simp [intOf]; omega
    · obtain rfl : k = m.length := by omega
      have hs := HS.out
      have hi := HI.out
      rw [List.take_length] at hi O
      rw [List.drop_length, List.append_nil] at O
      by_cases htm : tm = true
      · rw [if_pos htm] at hs
        subst hs
        subst hi
        clear HS HI
        skip
        have cs := O.facts
        simp only [factsP, cellsP, roomP, foots_cons, foots_nil, foots_append, foot_pt, ptb, ptb_mapA, foot_mapA, factsP_mapA, foot_bun, List.append_nil, List.nil_append, List.cons_append, List.nodup_cons, List.nodup_nil, List.mem_cons, List.not_mem_nil, List.mem_singleton, List.forall_mem_cons, not_or, not_false_eq_true, and_true, true_and, or_false, false_or, forall_eq_or_imp, forall_eq, implies_true, Nat.zero_add, Nat.reduceAdd, and_assoc, ptb_listA, factsP_listA, Nat.mul_one, refCells, intCells, changeCells] at cs
        go_wp2_with fail
        go_ret
        first | exact ⟨A', c', rfl, by simpa [List.length_map] using O⟩ | exact ⟨rfl, A', c', by simpa [List.length_map] using O⟩
      · have hz := hz (by simpa using htm)
        have hm : m = [] := List.eq_nil_of_length_eq_zero hz
        subst hm
        rw [if_neg htm] at hs
        subst hs hi
        clear HS HI
        have cs := O.facts
        simp only [factsP, cellsP, roomP, foots_cons, foots_nil, foots_append, foot_pt, ptb, ptb_mapA, foot_mapA, factsP_mapA, foot_bun, List.append_nil, List.nil_append, List.cons_append, List.nodup_cons, List.nodup_nil, List.mem_cons, List.not_mem_nil, List.mem_singleton, List.forall_mem_cons, not_or, not_false_eq_true, and_true, true_and, or_false, false_or, forall_eq_or_imp, forall_eq, implies_true, Nat.zero_add, Nat.reduceAdd, and_assoc, ptb_listA, factsP_listA, Nat.mul_one, refCells, intCells, changeCells] at cs
        go_wp2_with fail
        go_ret
        first | exact ⟨A', c', by simp, O⟩ | exact ⟨rfl, A', c', O⟩
end Go.Proofs.Ytobiodbdnpcanaa
