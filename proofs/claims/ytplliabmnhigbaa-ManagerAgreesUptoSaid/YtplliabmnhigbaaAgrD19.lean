/- WALK: managers agree (ManagerAgrees). -/
import Derived.Test.YtplliabmnhigbaaAgrC19
set_option linter.unusedVariables false
set_option linter.unusedSimpArgs false
namespace Go.Proofs.Ytplliabmnhigbaa
open Go.RowKit Go.Tk
theorem inc_cell {W : World} {bx off r : Nat} {x : ItS} (hr : r < 4) {R1 R2 R3 R4 R5 : Prop} (h : R1 ∧ R2 ∧ R3 ∧ R4 ∧ R5 ∧ W.cell? ⟨bx, off + 4, none⟩ = some (.int .u32 (x.inc 0)) ∧ W.cell? ⟨bx, off + 5, none⟩ = some (.int .u32 (x.inc 1)) ∧ W.cell? ⟨bx, off + 6, none⟩ = some (.int .u32 (x.inc 2)) ∧ W.cell? ⟨bx, off + 7, none⟩ = some (.int .u32 (x.inc 3))) : R1 ∧ W.cell? ⟨bx, off + 4 + r, none⟩ = some (.int .u32 (x.inc r)) := by
  refine ⟨h.1, ?_⟩
  obtain ⟨_, _, _, _, _, h0, h1, h2, h3⟩ := h
  obtain rfl | rfl | rfl | rfl : r = 0 ∨ r = 1 ∨ r = 2 ∨ r = 3 := by omega
  · exact h0
  · exact h1
  · exact h2
  · exact h3
theorem own_cell {W : World} {xb i r : Nat} {R1 : Prop} {v : Value} (h : R1 ∧ W.cell? ⟨xb, 12 + (i * 4 + r), none⟩ = some v) : R1 ∧ W.cell? ⟨xb, 12 + i * 4 + r, none⟩ = some v := by
  rw [Nat.add_assoc]
  exact h
theorem ne97 : (⟨#[97]⟩ : ByteArray) ≠ .empty := fun h => by have := congrArg ByteArray.size h; simp [ByteArray.size] at this
theorem ne112 : (⟨#[112]⟩ : ByteArray) ≠ .empty := fun h => by have := congrArg ByteArray.size h; simp [ByteArray.size] at this
theorem empty_of {v : ByteArray} (h : v.toList.isEmpty = true) : v = .empty := by
  rw [List.isEmpty_iff, ByteArray.toList_eq] at h
  exact ByteArray.ext (Array.toList_inj.1 h)
theorem bk_cell {R1 R2 R3 : Prop} (h : R1 ∧ R2 ∧ R3) : R1 ∧ R2 := ⟨h.1, h.2.1⟩
set_option maxRecDepth 100000 in
set_option maxHeartbeats 16000000 in
theorem agrees_walk (w : World) (t : TxS) (ht : t.At w) (SV : Value) (ev : List EvR) (hs : ArgList w 7 EvR.cells SV ev) (hok : ∀ v ∈ ev, v.ok) :
    Calls Try.prog 6 #[t.val, SV] w (fun e w' => e = .returned (.bool true) ∧ Below w.heap.size w w') := by
  obtain ⟨hl, SA, sc, rfl, hcs⟩ := hs
  have HT := Lib.hid ht
  have HS := Lib.hid hcs
  have HV := Lib.hid hok
  have HEL := Lib.hid hl
  have CRR := Lib.hid (fun W (f : Fr [] w W) => q_rRight W t (HT.out.fr f))
  clear ht hcs hok hl
  have O : Mem w [] w [] := Mem.begin
  have HSL : Hid (t.s.length ≤ 1048576) := Lib.hid HT.out.len
  generalize hrt : t.r.right = rt at CRR
  have HRT := Lib.hid hrt
  clear hrt
  obtain ⟨tid, tcl, t0, t1, t2, tA, tc, ts⟩ := t
  simp only [TxS.val] at CRR ⊢
  simp only at HSL
  obtain ⟨n, hN⟩ : ∃ N, ts.length = N := ⟨_, rfl⟩
  rw [hN] at CRR HSL ⊢
  have HN := Lib.hid hN
  clear hN
  skip
  go_enter Try.func6, Try.ntmps6
  have cs := O.facts
  try simp only [factsP, cellsP, roomP, foots_cons, foots_nil, foots_append, foot_pt, ptb, ptb_mapA, foot_mapA, factsP_mapA, foot_bun, List.append_nil, List.nil_append, List.cons_append, List.nodup_cons, List.nodup_nil, List.mem_cons, List.not_mem_nil, List.mem_singleton, List.forall_mem_cons, not_or, not_false_eq_true, and_true, true_and, or_false, false_or, forall_eq_or_imp, forall_eq, implies_true, Nat.zero_add, Nat.reduceAdd, and_assoc, factsP_all, ptb_all, upd_all, Nat.mul_one, hdCells] at cs
  go_upto_region 1 with fail
  first | apply Mem.atCall | apply Mem.atCode | apply Mem.atList
  case h => repeat' (first | (with_reducible exact O) | (with_reducible apply Mem.drew) | (with_reducible apply Mem.drewN) | (with_reducible apply Mem.ext) | (with_reducible apply Mem.alloc) | (with_reducible apply Mem.setCell) | (simp only [ptb, ptb_upd, foots_cons, List.mem_cons, World.size_alloc, size_ext, World.size_setCell, true_or, or_true, eq_self_iff_true, ptb_all]))
  case' k =>
    intro w1 O'
    (try clear O)
    have O := O'
    clear O'
    (first | simp only [sel, rst, List.cons_append, List.nil_append, World.size_alloc, size_ext, World.size_setCell, size_setMap, World.size_drew, size_drewN, upd, List.set_cons_zero, List.set_cons_succ, if_true, if_false, reduceIte, not_false_eq_true, ne_lt0, ne_lt1, ne_lt2, ne_lt3, ne_lt4, upd_all, cs] at O | simp only [sel, rst, List.cons_append, List.nil_append, World.size_alloc, size_ext, World.size_setCell, size_setMap, World.size_drew, size_drewN, upd, List.set_cons_zero, List.set_cons_succ, if_true, if_false, reduceIte, not_false_eq_true, ne_lt0, ne_lt1, ne_lt2, ne_lt3, ne_lt4, upd_all] at O | skip)
    (try clear cs)
    (try clear v1)
    (try clear v2)
    (try clear v3)
  generalize w.heap.size = tb at O ⊢
  have cs := O.facts
  try simp only [factsP, cellsP, roomP, foots_cons, foots_nil, foots_append, foot_pt, ptb, ptb_mapA, foot_mapA, factsP_mapA, foot_bun, List.append_nil, List.nil_append, List.cons_append, List.nodup_cons, List.nodup_nil, List.mem_cons, List.not_mem_nil, List.mem_singleton, List.forall_mem_cons, not_or, not_false_eq_true, and_true, true_and, or_false, false_or, forall_eq_or_imp, forall_eq, implies_true, Nat.zero_add, Nat.reduceAdd, and_assoc, factsP_all, ptb_all, upd_all, Nat.mul_one, hdCells] at cs
  go_wp2_with fail
  first | apply Mem.atCall | apply Mem.atCode | apply Mem.atList
  case h => repeat' (first | (with_reducible exact O) | (with_reducible apply Mem.drew) | (with_reducible apply Mem.drewN) | (with_reducible apply Mem.ext) | (with_reducible apply Mem.alloc) | (with_reducible apply Mem.setCell) | (simp only [ptb, ptb_upd, foots_cons, List.mem_cons, World.size_alloc, size_ext, World.size_setCell, true_or, or_true, eq_self_iff_true, ptb_all]))
  case' k =>
    intro w2 O'
    (try clear O)
    have O := O'
    clear O'
    (first | simp only [sel, rst, List.cons_append, List.nil_append, World.size_alloc, size_ext, World.size_setCell, size_setMap, World.size_drew, size_drewN, upd, List.set_cons_zero, List.set_cons_succ, if_true, if_false, reduceIte, not_false_eq_true, ne_lt0, ne_lt1, ne_lt2, ne_lt3, ne_lt4, upd_all, cs] at O | simp only [sel, rst, List.cons_append, List.nil_append, World.size_alloc, size_ext, World.size_setCell, size_setMap, World.size_drew, size_drewN, upd, List.set_cons_zero, List.set_cons_succ, if_true, if_false, reduceIte, not_false_eq_true, ne_lt0, ne_lt1, ne_lt2, ne_lt3, ne_lt4, upd_all] at O | skip)
    (try clear cs)
    (try clear v1)
    (try clear v2)
    (try clear v3)
  refine (CRR.out _ O.fr).mono ?_
  rintro e w3 ⟨rfl, o⟩
  replace O := O.callp [] o
  clear o
  simp only [put, List.cons_append, List.nil_append] at O
  have cs := O.facts
  try simp only [factsP, cellsP, roomP, foots_cons, foots_nil, foots_append, foot_pt, ptb, ptb_mapA, foot_mapA, factsP_mapA, foot_bun, List.append_nil, List.nil_append, List.cons_append, List.nodup_cons, List.nodup_nil, List.mem_cons, List.not_mem_nil, List.mem_singleton, List.forall_mem_cons, not_or, not_false_eq_true, and_true, true_and, or_false, false_or, forall_eq_or_imp, forall_eq, implies_true, Nat.zero_add, Nat.reduceAdd, and_assoc, factsP_all, ptb_all, upd_all, Nat.mul_one, hdCells] at cs
  go_wp2_with fail
  first | apply Mem.atCall | apply Mem.atCode | apply Mem.atList
  case h => repeat' (first | (with_reducible exact O) | (with_reducible apply Mem.drew) | (with_reducible apply Mem.drewN) | (with_reducible apply Mem.ext) | (with_reducible apply Mem.alloc) | (with_reducible apply Mem.setCell) | (simp only [ptb, ptb_upd, foots_cons, List.mem_cons, World.size_alloc, size_ext, World.size_setCell, true_or, or_true, eq_self_iff_true, ptb_all]))
  case' k =>
    intro w4 O'
    (try clear O)
    have O := O'
    clear O'
    (first | simp only [sel, rst, List.cons_append, List.nil_append, World.size_alloc, size_ext, World.size_setCell, size_setMap, World.size_drew, size_drewN, upd, List.set_cons_zero, List.set_cons_succ, if_true, if_false, reduceIte, not_false_eq_true, ne_lt0, ne_lt1, ne_lt2, ne_lt3, ne_lt4, upd_all, cs] at O | simp only [sel, rst, List.cons_append, List.nil_append, World.size_alloc, size_ext, World.size_setCell, size_setMap, World.size_drew, size_drewN, upd, List.set_cons_zero, List.set_cons_succ, if_true, if_false, reduceIte, not_false_eq_true, ne_lt0, ne_lt1, ne_lt2, ne_lt3, ne_lt4, upd_all] at O | skip)
    (try clear cs)
    (try clear v1)
    (try clear v2)
    (try clear v3)
  refine (law_alive19 _).mono ?_
  rintro e w5 ⟨rfl, o⟩
  replace O := O.callp [] o
  clear o
  simp only [put, List.cons_append, List.nil_append] at O
  cases rt
  · have cs := O.facts
    try simp only [factsP, cellsP, roomP, foots_cons, foots_nil, foots_append, foot_pt, ptb, ptb_mapA, foot_mapA, factsP_mapA, foot_bun, List.append_nil, List.nil_append, List.cons_append, List.nodup_cons, List.nodup_nil, List.mem_cons, List.not_mem_nil, List.mem_singleton, List.forall_mem_cons, not_or, not_false_eq_true, and_true, true_and, or_false, false_or, forall_eq_or_imp, forall_eq, implies_true, Nat.zero_add, Nat.reduceAdd, and_assoc, factsP_all, ptb_all, upd_all, Nat.mul_one, hdCells] at cs
    go_wp2_with fail
    first | apply Mem.atCall | apply Mem.atCode | apply Mem.atList
    case h => repeat' (first | (with_reducible exact O) | (with_reducible apply Mem.drew) | (with_reducible apply Mem.drewN) | (with_reducible apply Mem.ext) | (with_reducible apply Mem.alloc) | (with_reducible apply Mem.setCell) | (simp only [ptb, ptb_upd, foots_cons, List.mem_cons, World.size_alloc, size_ext, World.size_setCell, true_or, or_true, eq_self_iff_true, ptb_all]))
    case' k =>
      intro w6 O'
      (try clear O)
      have O := O'
      clear O'
      (first | simp only [sel, rst, List.cons_append, List.nil_append, World.size_alloc, size_ext, World.size_setCell, size_setMap, World.size_drew, size_drewN, upd, List.set_cons_zero, List.set_cons_succ, if_true, if_false, reduceIte, not_false_eq_true, ne_lt0, ne_lt1, ne_lt2, ne_lt3, ne_lt4, upd_all, cs] at O | simp only [sel, rst, List.cons_append, List.nil_append, World.size_alloc, size_ext, World.size_setCell, size_setMap, World.size_drew, size_drewN, upd, List.set_cons_zero, List.set_cons_succ, if_true, if_false, reduceIte, not_false_eq_true, ne_lt0, ne_lt1, ne_lt2, ne_lt3, ne_lt4, upd_all] at O | skip)
      (try clear cs)
      (try clear v1)
      (try clear v2)
      (try clear v3)
    refine (law_alive19 _).mono ?_
    rintro e w7 ⟨rfl, o⟩
    replace O := O.callp [] o
    clear o
    simp only [put, List.cons_append, List.nil_append] at O
    have cs := O.facts
    try simp only [factsP, cellsP, roomP, foots_cons, foots_nil, foots_append, foot_pt, ptb, ptb_mapA, foot_mapA, factsP_mapA, foot_bun, List.append_nil, List.nil_append, List.cons_append, List.nodup_cons, List.nodup_nil, List.mem_cons, List.not_mem_nil, List.mem_singleton, List.forall_mem_cons, not_or, not_false_eq_true, and_true, true_and, or_false, false_or, forall_eq_or_imp, forall_eq, implies_true, Nat.zero_add, Nat.reduceAdd, and_assoc, factsP_all, ptb_all, upd_all, Nat.mul_one, hdCells] at cs
    go_wp2_with fail
    go_ret
    exact ⟨rfl, O.fr0.fr.below rfl⟩
  · have cs := O.facts
    try simp only [factsP, cellsP, roomP, foots_cons, foots_nil, foots_append, foot_pt, ptb, ptb_mapA, foot_mapA, factsP_mapA, foot_bun, List.append_nil, List.nil_append, List.cons_append, List.nodup_cons, List.nodup_nil, List.mem_cons, List.not_mem_nil, List.mem_singleton, List.forall_mem_cons, not_or, not_false_eq_true, and_true, true_and, or_false, false_or, forall_eq_or_imp, forall_eq, implies_true, Nat.zero_add, Nat.reduceAdd, and_assoc, factsP_all, ptb_all, upd_all, Nat.mul_one, hdCells] at cs
    go_upto_region 5 with fail
    first | apply Mem.atCall | apply Mem.atCode | apply Mem.atList
    case h => repeat' (first | (with_reducible exact O) | (with_reducible apply Mem.drew) | (with_reducible apply Mem.drewN) | (with_reducible apply Mem.ext) | (with_reducible apply Mem.alloc) | (with_reducible apply Mem.setCell) | (simp only [ptb, ptb_upd, foots_cons, List.mem_cons, World.size_alloc, size_ext, World.size_setCell, true_or, or_true, eq_self_iff_true, ptb_all]))
    case' k =>
      intro w6 O'
      (try clear O)
      have O := O'
      clear O'
      (first | simp only [sel, rst, List.cons_append, List.nil_append, World.size_alloc, size_ext, World.size_setCell, size_setMap, World.size_drew, size_drewN, upd, List.set_cons_zero, List.set_cons_succ, if_true, if_false, reduceIte, not_false_eq_true, ne_lt0, ne_lt1, ne_lt2, ne_lt3, ne_lt4, upd_all, cs] at O | simp only [sel, rst, List.cons_append, List.nil_append, World.size_alloc, size_ext, World.size_setCell, size_setMap, World.size_drew, size_drewN, upd, List.set_cons_zero, List.set_cons_succ, if_true, if_false, reduceIte, not_false_eq_true, ne_lt0, ne_lt1, ne_lt2, ne_lt3, ne_lt4, upd_all] at O | skip)
      (try clear cs)
      (try clear v1)
      (try clear v2)
      (try clear v3)
    generalize w5.heap.size = xb at O ⊢
    have hC := wcZero tid tcl t0 t1 t2 tA n tc
    obtain ⟨ws, hws⟩ : ∃ ws, ws = ([.int .u64 tid, .int .i64 tcl, .int .i64 t0, .int .i64 t1, .int .i64 t2, .slice tA n tc] ++ List.replicate 6 (.pointer none) ++ List.replicate 32 (.string .empty) ++ [.int .u32 0, .slice none 0 0] : List Value) := ⟨_, rfl⟩
    rw [← hws] at hC
    replace O : Mem w [] w6 [.pt xb ws 83, .pt tb [.int .u64 tid, .int .i64 tcl, .int .i64 t0, .int .i64 t1, .int .i64 t2, .slice tA n tc] 26] := by rw [hws]; exact O
    clear hws
    have HC := Lib.hid hC
    clear hC
    have hpos : 0 < n := by
      obtain ⟨_, _, r3, _, _⟩ := TxR.right_parts HRT.out
      have e : (TxS.mk tid tcl t0 t1 t2 tA tc ts).r.items.length = ts.length := by simp [TxS.r]
      rw [e, HN.out] at r3
      omega
    have hn8 : n ≤ 8 := by
      obtain ⟨_, _, _, r4, _⟩ := TxR.right_parts HRT.out
      have e : (TxS.mk tid tcl t0 t1 t2 tA tc ts).r.items.length = ts.length := by simp [TxS.r]
      rw [e, HN.out] at r4
      exact r4
    obtain ⟨bx, ox, rfl⟩ : ∃ bx ox, tA = some ⟨bx, ox, none⟩ := by
      obtain ⟨b, off, h1, _⟩ := HT.out.at_ 0 _ (List.getElem?_eq_getElem (by rw [HN.out]; exact hpos))
      exact ⟨b, off, h1⟩
    skip
    have cs := O.facts
    try simp only [factsP, cellsP, roomP, foots_cons, foots_nil, foots_append, foot_pt, ptb, ptb_mapA, foot_mapA, factsP_mapA, foot_bun, List.append_nil, List.nil_append, List.cons_append, List.nodup_cons, List.nodup_nil, List.mem_cons, List.not_mem_nil, List.mem_singleton, List.forall_mem_cons, not_or, not_false_eq_true, and_true, true_and, or_false, false_or, forall_eq_or_imp, forall_eq, implies_true, Nat.zero_add, Nat.reduceAdd, and_assoc, factsP_all, ptb_all, upd_all, Nat.mul_one, hdCells] at cs
    go_wp2_with fail
    clear cs
    go_loopw [7] (fun s7 wr => ∃ (k : Nat) (ws : List Value) (pt pm : Nat → Option Addr) (us : List TabM) (ms : List MgM), k ≤ 3 ∧ s7 = .int .i64 k ∧ Wc ws tid (some ⟨bx, ox, none⟩) n tc pt pm (fun _ _ => .empty) 0 none 0 0 ∧ us.length = k ∧ (∀ j T, us[j]? = some T → pt j = some ⟨T.tb, 0, none⟩ ∧ T.m = []) ∧ ms.length = k ∧ (∀ j M, ms[j]? = some M → pm j = some ⟨M.mb, 0, none⟩ ∧ M.E.new (TxS.mk tid tcl t0 t1 t2 (some ⟨bx, ox, none⟩) tc ts)) ∧ Mem w [] wr [.pt xb ws 83, fam tabF us, fam mgF ms, .pt tb [.int .u64 tid, .int .i64 tcl, .int .i64 t0, .int .i64 t1, .int .i64 t2, .slice (some ⟨bx, ox, none⟩) n tc] 26]) (fun s7 _ => 3 - (intOf s7).toNat)
    case atStart =>
      have O := (O.famNil (f := mgF)).famNil (f := tabF)
      replace O := ((((O).front [false, false, false, true]).front [false, false, true]).front [false, false, true]).front [false, false, false, true]
      simp only [Tk.sel, rst, List.cons_append, List.nil_append] at O
      replace O := O.sel [true, true, true, true]
      simp only [Tk.sel] at O
      exact ⟨0, ws, _, _, [], [], by omega, rfl, HC.out, rfl, fun j T h => by simp at h, rfl, fun j M h => by simp at h, O⟩
    case round =>
      clear O HC
      obtain ⟨k, ws, pt, pm, us, ms, hk3, rfl, hC, hul, huat, hml, hmat, O⟩ := hrel
      have HC := Lib.hid hC
      have HU := Lib.hid huat
      have HM := Lib.hid hmat
      have HUL := Lib.hid hul
      have HML := Lib.hid hml
      clear hC huat hmat hul hml
      by_cases hk : k < 3
      · have hki : (k : Int) < 3 := by omega
        have hki' : ((k : Int) < 3) = True := by simp [hki]
        as_aux_lemma =>
          have PT := Lib.hid (fun (W : World) (L : List Asn) (O : Mem w [] W L) (hm : Asn.pt xb ws 83 ∈ L) => ptCell O hm (HC.out.acc k hk))
          skip
          have cs := O.facts
          try simp only [factsP, cellsP, roomP, foots_cons, foots_nil, foots_append, foot_pt, ptb, ptb_mapA, foot_mapA, factsP_mapA, foot_bun, List.append_nil, List.nil_append, List.cons_append, List.nodup_cons, List.nodup_nil, List.mem_cons, List.not_mem_nil, List.mem_singleton, List.forall_mem_cons, not_or, not_false_eq_true, and_true, true_and, or_false, false_or, forall_eq_or_imp, forall_eq, implies_true, Nat.zero_add, Nat.reduceAdd, and_assoc, factsP_all, ptb_all, upd_all, Nat.mul_one, hdCells] at cs
          have v1 := PT.out _ _ O (by simp [Tk.sel])
          try simp only [cellsQ, roomP, and_assoc, and_true, true_and, Nat.add_zero, Nat.zero_add, Nat.reduceAdd, factsP, cellsP, roomP, foots_cons, foots_nil, foots_append, foot_pt, ptb, ptb_mapA, foot_mapA, factsP_mapA, foot_bun, List.append_nil, List.nil_append, List.cons_append, List.nodup_cons, List.nodup_nil, List.mem_cons, List.not_mem_nil, List.mem_singleton, List.forall_mem_cons, not_or, not_false_eq_true, and_true, true_and, or_false, false_or, forall_eq_or_imp, forall_eq, implies_true, Nat.zero_add, Nat.reduceAdd, and_assoc, factsP_all, ptb_all, upd_all, Nat.mul_one, hdCells] at v1
          go_wp2_with fail
          first | apply Mem.atCall | apply Mem.atCode | apply Mem.atList
          case h => repeat' (first | (with_reducible exact O) | (with_reducible apply Mem.drew) | (with_reducible apply Mem.drewN) | (with_reducible apply Mem.ext) | (with_reducible apply Mem.alloc) | (with_reducible apply Mem.setCell) | (simp only [ptb, ptb_upd, foots_cons, List.mem_cons, World.size_alloc, size_ext, World.size_setCell, true_or, or_true, eq_self_iff_true, ptb_all]))
          case' k =>
            intro x1 O'
            (try clear O)
            have O := O'
            clear O'
            (first | simp only [sel, rst, List.cons_append, List.nil_append, World.size_alloc, size_ext, World.size_setCell, size_setMap, World.size_drew, size_drewN, upd, List.set_cons_zero, List.set_cons_succ, if_true, if_false, reduceIte, not_false_eq_true, ne_lt0, ne_lt1, ne_lt2, ne_lt3, ne_lt4, upd_all, cs] at O | simp only [sel, rst, List.cons_append, List.nil_append, World.size_alloc, size_ext, World.size_setCell, size_setMap, World.size_drew, size_drewN, upd, List.set_cons_zero, List.set_cons_succ, if_true, if_false, reduceIte, not_false_eq_true, ne_lt0, ne_lt1, ne_lt2, ne_lt3, ne_lt4, upd_all] at O | skip)
            (try clear cs)
            (try clear v1)
            (try clear v2)
            (try clear v3)
          refine (x_NewT x1).mono ?_
          rintro e x2 ⟨⟨ab, am⟩, rfl, o⟩
          replace O := O.callp [] o
          clear o
          simp only [put, List.cons_append, List.nil_append, List.map_nil, List.length_nil] at O
          have cs := O.facts
          try simp only [factsP, cellsP, roomP, foots_cons, foots_nil, foots_append, foot_pt, ptb, ptb_mapA, foot_mapA, factsP_mapA, foot_bun, List.append_nil, List.nil_append, List.cons_append, List.nodup_cons, List.nodup_nil, List.mem_cons, List.not_mem_nil, List.mem_singleton, List.forall_mem_cons, not_or, not_false_eq_true, and_true, true_and, or_false, false_or, forall_eq_or_imp, forall_eq, implies_true, Nat.zero_add, Nat.reduceAdd, and_assoc, factsP_all, ptb_all, upd_all, Nat.mul_one, hdCells] at cs
          have v1 := PT.out _ _ O (by simp [Tk.sel])
          try simp only [cellsQ, roomP, and_assoc, and_true, true_and, Nat.add_zero, Nat.zero_add, Nat.reduceAdd, factsP, cellsP, roomP, foots_cons, foots_nil, foots_append, foot_pt, ptb, ptb_mapA, foot_mapA, factsP_mapA, foot_bun, List.append_nil, List.nil_append, List.cons_append, List.nodup_cons, List.nodup_nil, List.mem_cons, List.not_mem_nil, List.mem_singleton, List.forall_mem_cons, not_or, not_false_eq_true, and_true, true_and, or_false, false_or, forall_eq_or_imp, forall_eq, implies_true, Nat.zero_add, Nat.reduceAdd, and_assoc, factsP_all, ptb_all, upd_all, Nat.mul_one, hdCells] at v1
          go_upto_region 10 with fail
          first | apply Mem.atCall | apply Mem.atCode | apply Mem.atList
          case h => repeat' (first | (with_reducible exact O) | (with_reducible apply Mem.drew) | (with_reducible apply Mem.drewN) | (with_reducible apply Mem.ext) | (with_reducible apply Mem.alloc) | (with_reducible apply Mem.setCell) | (simp only [ptb, ptb_upd, foots_cons, List.mem_cons, World.size_alloc, size_ext, World.size_setCell, true_or, or_true, eq_self_iff_true, ptb_all]))
          case' k =>
            intro x3 O'
            (try clear O)
            have O := O'
            clear O'
            (first | simp only [sel, rst, List.cons_append, List.nil_append, World.size_alloc, size_ext, World.size_setCell, size_setMap, World.size_drew, size_drewN, upd, List.set_cons_zero, List.set_cons_succ, if_true, if_false, reduceIte, not_false_eq_true, ne_lt0, ne_lt1, ne_lt2, ne_lt3, ne_lt4, upd_all, cs] at O | simp only [sel, rst, List.cons_append, List.nil_append, World.size_alloc, size_ext, World.size_setCell, size_setMap, World.size_drew, size_drewN, upd, List.set_cons_zero, List.set_cons_succ, if_true, if_false, reduceIte, not_false_eq_true, ne_lt0, ne_lt1, ne_lt2, ne_lt3, ne_lt4, upd_all] at O | skip)
            (try clear cs)
            (try clear v1)
            (try clear v2)
            (try clear v3)
          obtain ⟨ws2, hws2⟩ : ∃ ws2, ws.set (6 + k) (.pointer (some ⟨ab, 0, none⟩)) = ws2 := ⟨_, rfl⟩
          have HC2 := Lib.hid (HC.out.setA hk (some ⟨ab, 0, none⟩))
          rw [hws2] at O HC2
          clear hws2
          have PT := Lib.hid (fun (W : World) (L : List Asn) (O : Mem w [] W L) (hm : Asn.pt xb ws2 83 ∈ L) => ptCell O hm (HC2.out.man k hk))
          have CN := Lib.hid (fun W => x_New W)
          skip
          apply region_held_mem [] (by kernel_rfl)
          case O => repeat' (first | (with_reducible exact O) | (with_reducible apply Mem.drew) | (with_reducible apply Mem.drewN) | (with_reducible apply Mem.ext) | (with_reducible apply Mem.alloc) | (with_reducible apply Mem.setCell) | (simp only [ptb, ptb_upd, foots_cons, List.mem_cons, World.size_alloc, size_ext, World.size_setCell, true_or, or_true, eq_self_iff_true, ptb_all]))
          case' h =>
            intro wr1 O'
            (try clear O)
            have O := O'
            clear O'
            (first | simp only [sel, rst, List.cons_append, List.nil_append, World.size_alloc, size_ext, World.size_setCell, size_setMap, World.size_drew, size_drewN, upd, List.set_cons_zero, List.set_cons_succ, if_true, if_false, reduceIte, not_false_eq_true, ne_lt0, ne_lt1, ne_lt2, ne_lt3, ne_lt4, upd_all, cs] at O | simp only [sel, rst, List.cons_append, List.nil_append, World.size_alloc, size_ext, World.size_setCell, size_setMap, World.size_drew, size_drewN, upd, List.set_cons_zero, List.set_cons_succ, if_true, if_false, reduceIte, not_false_eq_true, ne_lt0, ne_lt1, ne_lt2, ne_lt3, ne_lt4, upd_all] at O | skip)
            (try clear cs)
            (try clear v1)
            (try clear v2)
            (try clear v3)
          refine takeH (i := 0) (v := ?v1_1) rfl (by kernel_rfl) (by kernel_rfl) (by kernel_rfl) (fun _ _ _ h => h) (by rfl) ?y1_1 (O.sel []) ?r1_1
          case y1_1 =>
            intro WW hSw
            (go_simp) <;> (with_reducible rfl)
          case' r1_1 =>
            try simp only [Act.put, List.setIfInBounds_toArray, List.set_cons_zero, List.set_cons_succ]
          refine takeH (i := 1) (v := ?v1_2) rfl (by kernel_rfl) (by kernel_rfl) (by kernel_rfl) (fun _ _ _ h => h) (by rfl) ?y1_2 (O.sel []) ?r1_2
          case y1_2 =>
            intro WW hSw
            (go_simp) <;> (with_reducible rfl)
          case' r1_2 =>
            try simp only [Act.put, List.setIfInBounds_toArray, List.set_cons_zero, List.set_cons_succ]
          refine takeH (i := 3) (v := ?v1_3) rfl (by kernel_rfl) (by kernel_rfl) (by kernel_rfl) (fun _ _ _ h => h) (by rfl) ?y1_3 (O.sel []) ?r1_3
          case y1_3 =>
            intro WW hSw
            (go_simp) <;> (with_reducible rfl)
          case' r1_3 =>
            try simp only [Act.put, List.setIfInBounds_toArray, List.set_cons_zero, List.set_cons_succ]
          refine takeH (i := 4) (v := ?v1_4) rfl (by kernel_rfl) (by kernel_rfl) (by kernel_rfl) (fun _ _ _ h => h) (by rfl) ?y1_4 (O.sel []) ?r1_4
          case y1_4 =>
            intro WW hSw
            (go_simp) <;> (with_reducible rfl)
          case' r1_4 =>
            try simp only [Act.put, List.setIfInBounds_toArray, List.set_cons_zero, List.set_cons_succ]
          refine wpAnyH_ready (rs := [2]) (by kernel_rfl) (by simp) ?_
          refine consH rfl (fun K hK => ?_) AllReadyH.nil
          have cs := O.facts
          simp only [factsP, cellsP, roomP, foots_cons, foots_nil, foots_append, foot_pt, ptb, ptb_mapA, foot_mapA, factsP_mapA, foot_bun, List.append_nil, List.nil_append, List.cons_append, List.nodup_cons, List.nodup_nil, List.mem_cons, List.not_mem_nil, List.mem_singleton, List.forall_mem_cons, not_or, not_false_eq_true, and_true, true_and, or_false, false_or, forall_eq_or_imp, forall_eq, implies_true, Nat.zero_add, Nat.reduceAdd, and_assoc, factsP_all, ptb_all, upd_all, Nat.mul_one, hdCells] at cs
          try have v1 := PT.out _ _ O (.tail _ (.head _))
          try simp only [cellsQ, roomP, and_assoc, and_true, true_and, Nat.add_zero, Nat.zero_add, Nat.reduceAdd, factsP, cellsP, roomP, foots_cons, foots_nil, foots_append, foot_pt, ptb, ptb_mapA, foot_mapA, factsP_mapA, foot_bun, List.append_nil, List.nil_append, List.cons_append, List.nodup_cons, List.nodup_nil, List.mem_cons, List.not_mem_nil, List.mem_singleton, List.forall_mem_cons, not_or, not_false_eq_true, and_true, true_and, or_false, false_or, forall_eq_or_imp, forall_eq, implies_true, Nat.zero_add, Nat.reduceAdd, and_assoc, factsP_all, ptb_all, upd_all, Nat.mul_one, hdCells] at v1
          try have v2 := PT.out _ _ O (.tail _ (.tail _ (.head _)))
          try simp only [cellsQ, roomP, and_assoc, and_true, true_and, Nat.add_zero, Nat.zero_add, Nat.reduceAdd, factsP, cellsP, roomP, foots_cons, foots_nil, foots_append, foot_pt, ptb, ptb_mapA, foot_mapA, factsP_mapA, foot_bun, List.append_nil, List.nil_append, List.cons_append, List.nodup_cons, List.nodup_nil, List.mem_cons, List.not_mem_nil, List.mem_singleton, List.forall_mem_cons, not_or, not_false_eq_true, and_true, true_and, or_false, false_or, forall_eq_or_imp, forall_eq, implies_true, Nat.zero_add, Nat.reduceAdd, and_assoc, factsP_all, ptb_all, upd_all, Nat.mul_one, hdCells] at v2
          go_simp
          apply Mem.atCall
          case h => repeat' (first | (with_reducible exact O) | (with_reducible apply Mem.drew) | (with_reducible apply Mem.drewN) | (with_reducible apply Mem.ext) | (with_reducible apply Mem.alloc) | (with_reducible apply Mem.setCell) | (simp only [ptb, ptb_upd, foots_cons, List.mem_cons, World.size_alloc, size_ext, World.size_setCell, true_or, or_true, eq_self_iff_true, ptb_all]))
          intro w1_5 O'
          (try clear O)
          have O := O'
          clear O'
          (first | simp only [sel, rst, List.cons_append, List.nil_append, World.size_alloc, size_ext, World.size_setCell, size_setMap, World.size_drew, size_drewN, upd, List.set_cons_zero, List.set_cons_succ, if_true, if_false, reduceIte, not_false_eq_true, ne_lt0, ne_lt1, ne_lt2, ne_lt3, ne_lt4, upd_all, cs] at O | simp only [sel, rst, List.cons_append, List.nil_append, World.size_alloc, size_ext, World.size_setCell, size_setMap, World.size_drew, size_drewN, upd, List.set_cons_zero, List.set_cons_succ, if_true, if_false, reduceIte, not_false_eq_true, ne_lt0, ne_lt1, ne_lt2, ne_lt3, ne_lt4, upd_all] at O | skip)
          (try clear cs)
          (try clear v1)
          (try clear v2)
          (try clear v3)
          refine (CN.out _).mono ?_
          rintro e w1_5' ⟨mx, rfl, o⟩
          replace O := O.callp [] o
          clear o
          simp only [put, List.cons_append, List.nil_append] at O
          go_wp2_with fail
          refine hK.out _ _ (O.sel []) (fun _ => ?_)
          clear hK K
          refine takeH (i := 5) (v := ?v1_6) rfl (by kernel_rfl) (by kernel_rfl) (by kernel_rfl) (fun _ _ _ h => h) (by rfl) ?y1_6 (O.sel []) ?r1_6
          case y1_6 =>
            intro WW hSw
            replace hSw : Mem _ _ WW _ := hSw
            have cs := hSw.facts
            simp only [sel, factsP, cellsP, roomP, foots_cons, foots_nil, foots_append, foot_pt, ptb, ptb_mapA, foot_mapA, factsP_mapA, foot_bun, List.append_nil, List.nil_append, List.cons_append, List.nodup_cons, List.nodup_nil, List.mem_cons, List.not_mem_nil, List.mem_singleton, List.forall_mem_cons, not_or, not_false_eq_true, and_true, true_and, or_false, false_or, forall_eq_or_imp, forall_eq, implies_true, Nat.zero_add, Nat.reduceAdd, and_assoc, factsP_all, ptb_all, upd_all, Nat.mul_one, hdCells] at cs
            try have v1 := PT.out _ _ hSw (.tail _ (.head _))
            try simp only [cellsQ, roomP, and_assoc, and_true, true_and, Nat.add_zero, Nat.zero_add, Nat.reduceAdd, factsP, cellsP, roomP, foots_cons, foots_nil, foots_append, foot_pt, ptb, ptb_mapA, foot_mapA, factsP_mapA, foot_bun, List.append_nil, List.nil_append, List.cons_append, List.nodup_cons, List.nodup_nil, List.mem_cons, List.not_mem_nil, List.mem_singleton, List.forall_mem_cons, not_or, not_false_eq_true, and_true, true_and, or_false, false_or, forall_eq_or_imp, forall_eq, implies_true, Nat.zero_add, Nat.reduceAdd, and_assoc, factsP_all, ptb_all, upd_all, Nat.mul_one, hdCells] at v1
            try have v2 := PT.out _ _ hSw (.tail _ (.tail _ (.head _)))
            try simp only [cellsQ, roomP, and_assoc, and_true, true_and, Nat.add_zero, Nat.zero_add, Nat.reduceAdd, factsP, cellsP, roomP, foots_cons, foots_nil, foots_append, foot_pt, ptb, ptb_mapA, foot_mapA, factsP_mapA, foot_bun, List.append_nil, List.nil_append, List.cons_append, List.nodup_cons, List.nodup_nil, List.mem_cons, List.not_mem_nil, List.mem_singleton, List.forall_mem_cons, not_or, not_false_eq_true, and_true, true_and, or_false, false_or, forall_eq_or_imp, forall_eq, implies_true, Nat.zero_add, Nat.reduceAdd, and_assoc, factsP_all, ptb_all, upd_all, Nat.mul_one, hdCells] at v2
            (go_simp) <;> (with_reducible rfl)
          case' r1_6 =>
            try simp only [Act.put, List.setIfInBounds_toArray, List.set_cons_zero, List.set_cons_succ]
          refine wpAnyH_ready (rs := [6]) (by kernel_rfl) (by simp) ?_
          refine consH rfl (fun K hK => ?_) AllReadyH.nil
          have cs := O.facts
          simp only [factsP, cellsP, roomP, foots_cons, foots_nil, foots_append, foot_pt, ptb, ptb_mapA, foot_mapA, factsP_mapA, foot_bun, List.append_nil, List.nil_append, List.cons_append, List.nodup_cons, List.nodup_nil, List.mem_cons, List.not_mem_nil, List.mem_singleton, List.forall_mem_cons, not_or, not_false_eq_true, and_true, true_and, or_false, false_or, forall_eq_or_imp, forall_eq, implies_true, Nat.zero_add, Nat.reduceAdd, and_assoc, factsP_all, ptb_all, upd_all, Nat.mul_one, hdCells] at cs
          try have v1 := PT.out _ _ O (.tail _ (.head _))
          try simp only [cellsQ, roomP, and_assoc, and_true, true_and, Nat.add_zero, Nat.zero_add, Nat.reduceAdd, factsP, cellsP, roomP, foots_cons, foots_nil, foots_append, foot_pt, ptb, ptb_mapA, foot_mapA, factsP_mapA, foot_bun, List.append_nil, List.nil_append, List.cons_append, List.nodup_cons, List.nodup_nil, List.mem_cons, List.not_mem_nil, List.mem_singleton, List.forall_mem_cons, not_or, not_false_eq_true, and_true, true_and, or_false, false_or, forall_eq_or_imp, forall_eq, implies_true, Nat.zero_add, Nat.reduceAdd, and_assoc, factsP_all, ptb_all, upd_all, Nat.mul_one, hdCells] at v1
          try have v2 := PT.out _ _ O (.tail _ (.tail _ (.head _)))
          try simp only [cellsQ, roomP, and_assoc, and_true, true_and, Nat.add_zero, Nat.zero_add, Nat.reduceAdd, factsP, cellsP, roomP, foots_cons, foots_nil, foots_append, foot_pt, ptb, ptb_mapA, foot_mapA, factsP_mapA, foot_bun, List.append_nil, List.nil_append, List.cons_append, List.nodup_cons, List.nodup_nil, List.mem_cons, List.not_mem_nil, List.mem_singleton, List.forall_mem_cons, not_or, not_false_eq_true, and_true, true_and, or_false, false_or, forall_eq_or_imp, forall_eq, implies_true, Nat.zero_add, Nat.reduceAdd, and_assoc, factsP_all, ptb_all, upd_all, Nat.mul_one, hdCells] at v2
          go_simp
          apply Mem.atK
          case h => repeat' (first | (with_reducible exact O) | (with_reducible apply Mem.drew) | (with_reducible apply Mem.drewN) | (with_reducible apply Mem.ext) | (with_reducible apply Mem.alloc) | (with_reducible apply Mem.setCell) | (simp only [ptb, ptb_upd, foots_cons, List.mem_cons, World.size_alloc, size_ext, World.size_setCell, true_or, or_true, eq_self_iff_true, ptb_all]))
          intro w1_7 O'
          (try clear O)
          have O := O'
          clear O'
          (first | simp only [sel, rst, List.cons_append, List.nil_append, World.size_alloc, size_ext, World.size_setCell, size_setMap, World.size_drew, size_drewN, upd, List.set_cons_zero, List.set_cons_succ, if_true, if_false, reduceIte, not_false_eq_true, ne_lt0, ne_lt1, ne_lt2, ne_lt3, ne_lt4, upd_all, cs] at O | simp only [sel, rst, List.cons_append, List.nil_append, World.size_alloc, size_ext, World.size_setCell, size_setMap, World.size_drew, size_drewN, upd, List.set_cons_zero, List.set_cons_succ, if_true, if_false, reduceIte, not_false_eq_true, ne_lt0, ne_lt1, ne_lt2, ne_lt3, ne_lt4, upd_all] at O | skip)
          (try clear cs)
          (try clear v1)
          (try clear v2)
          (try clear v3)
          refine hK.out _ _ (O.sel []) (fun _ => ?_)
          clear hK K
          refine wpAnyH_done (by kernel_rfl) ?_ _
          obtain ⟨ws3, hws3⟩ : ∃ ws3, ws2.set (9 + k) (.pointer (some ⟨mx.1, 0, none⟩)) = ws3 := ⟨_, rfl⟩
          have HC3 := Lib.hid (HC2.out.setM hk (some ⟨mx.1, 0, none⟩))
          rw [hws3] at O HC3
          clear hws3 PT
          have PT := Lib.hid (fun (W : World) (L : List Asn) (O : Mem w [] W L) (hm : Asn.pt xb ws3 83 ∈ L) => ptCell O hm (HC3.out.man k hk))
          simp only [upd3_same] at PT
          have CK := Lib.hid (fun W (hW : Pre W [mgrA mx.1 mx.2 none 0 []]) (ht : ∀ W', Fr (foots [mgrA mx.1 mx.2 none 0 []]) W W' → (TxS.mk tid tcl t0 t1 t2 (some ⟨bx, ox, none⟩) tc ts).At W') => x_Know W mx (TxS.mk tid tcl t0 t1 t2 (some ⟨bx, ox, none⟩) tc ts) hW ht HRT.out)
          simp only [TxS.val, HN.out] at CK
          skip
          have cs := O.facts
          try simp only [factsP, cellsP, roomP, foots_cons, foots_nil, foots_append, foot_pt, ptb, ptb_mapA, foot_mapA, factsP_mapA, foot_bun, List.append_nil, List.nil_append, List.cons_append, List.nodup_cons, List.nodup_nil, List.mem_cons, List.not_mem_nil, List.mem_singleton, List.forall_mem_cons, not_or, not_false_eq_true, and_true, true_and, or_false, false_or, forall_eq_or_imp, forall_eq, implies_true, Nat.zero_add, Nat.reduceAdd, and_assoc, factsP_all, ptb_all, upd_all, Nat.mul_one, hdCells] at cs
          have v1 := PT.out _ _ O (by simp [Tk.sel])
          try simp only [cellsQ, roomP, and_assoc, and_true, true_and, Nat.add_zero, Nat.zero_add, Nat.reduceAdd, factsP, cellsP, roomP, foots_cons, foots_nil, foots_append, foot_pt, ptb, ptb_mapA, foot_mapA, factsP_mapA, foot_bun, List.append_nil, List.nil_append, List.cons_append, List.nodup_cons, List.nodup_nil, List.mem_cons, List.not_mem_nil, List.mem_singleton, List.forall_mem_cons, not_or, not_false_eq_true, and_true, true_and, or_false, false_or, forall_eq_or_imp, forall_eq, implies_true, Nat.zero_add, Nat.reduceAdd, and_assoc, factsP_all, ptb_all, upd_all, Nat.mul_one, hdCells] at v1
          go_upto_region 11 with fail
          apply region_held_mem [false, false, true, false, false, true] (by kernel_rfl)
          case O => repeat' (first | (with_reducible exact O) | (with_reducible apply Mem.drew) | (with_reducible apply Mem.drewN) | (with_reducible apply Mem.ext) | (with_reducible apply Mem.alloc) | (with_reducible apply Mem.setCell) | (simp only [ptb, ptb_upd, foots_cons, List.mem_cons, World.size_alloc, size_ext, World.size_setCell, true_or, or_true, eq_self_iff_true, ptb_all]))
          case' h =>
            intro wr2 O'
            (try clear O)
            have O := O'
            clear O'
            (first | simp only [sel, rst, List.cons_append, List.nil_append, World.size_alloc, size_ext, World.size_setCell, size_setMap, World.size_drew, size_drewN, upd, List.set_cons_zero, List.set_cons_succ, if_true, if_false, reduceIte, not_false_eq_true, ne_lt0, ne_lt1, ne_lt2, ne_lt3, ne_lt4, upd_all, cs] at O | simp only [sel, rst, List.cons_append, List.nil_append, World.size_alloc, size_ext, World.size_setCell, size_setMap, World.size_drew, size_drewN, upd, List.set_cons_zero, List.set_cons_succ, if_true, if_false, reduceIte, not_false_eq_true, ne_lt0, ne_lt1, ne_lt2, ne_lt3, ne_lt4, upd_all] at O | skip)
            (try clear cs)
            (try clear v1)
            (try clear v2)
            (try clear v3)
          refine takeH (i := 0) (v := ?v2_1) rfl (by kernel_rfl) (by kernel_rfl) (by kernel_rfl) (fun _ _ _ h => h) (by rfl) ?y2_1 (O.sel [false, false, true, false, false, true]) ?r2_1
          case y2_1 =>
            intro WW hSw
            (go_simp) <;> (with_reducible rfl)
          case' r2_1 =>
            try simp only [Act.put, List.setIfInBounds_toArray, List.set_cons_zero, List.set_cons_succ]
          refine takeH (i := 1) (v := ?v2_2) rfl (by kernel_rfl) (by kernel_rfl) (by kernel_rfl) (fun _ _ _ h => h) (by rfl) ?y2_2 (O.sel [false, false, true, false, false, true]) ?r2_2
          case y2_2 =>
            intro WW hSw
            (go_simp) <;> (with_reducible rfl)
          case' r2_2 =>
            try simp only [Act.put, List.setIfInBounds_toArray, List.set_cons_zero, List.set_cons_succ]
          refine takeH (i := 2) (v := ?v2_3) rfl (by kernel_rfl) (by kernel_rfl) (by kernel_rfl) (fun _ _ _ h => h) (by rfl) ?y2_3 (O.sel [false, false, true, false, false, true]) ?r2_3
          case y2_3 =>
            intro WW hSw
            (go_simp) <;> (with_reducible rfl)
          case' r2_3 =>
            try simp only [Act.put, List.setIfInBounds_toArray, List.set_cons_zero, List.set_cons_succ]
          refine takeH (i := 3) (v := ?v2_4) rfl (by kernel_rfl) (by kernel_rfl) (by kernel_rfl) (fun _ _ _ h => h) (by rfl) ?y2_4 (O.sel [false, false, true, false, false, true]) ?r2_4
          case y2_4 =>
            intro WW hSw
            (go_simp) <;> (with_reducible rfl)
          case' r2_4 =>
            try simp only [Act.put, List.setIfInBounds_toArray, List.set_cons_zero, List.set_cons_succ]
          refine takeH (i := 4) (v := ?v2_5) rfl (by kernel_rfl) (by kernel_rfl) (by kernel_rfl) (fun _ _ _ h => h) (by rfl) ?y2_5 (O.sel [false, false, true, false, false, true]) ?r2_5
          case y2_5 =>
            intro WW hSw
            (go_simp) <;> (with_reducible rfl)
          case' r2_5 =>
            try simp only [Act.put, List.setIfInBounds_toArray, List.set_cons_zero, List.set_cons_succ]
          refine takeH (i := 5) (v := ?v2_6) rfl (by kernel_rfl) (by kernel_rfl) (by kernel_rfl) (fun _ _ _ h => h) (by rfl) ?y2_6 (O.sel [false, false, true, false, false, true]) ?r2_6
          case y2_6 =>
            intro WW hSw
            (go_simp) <;> (with_reducible rfl)
          case' r2_6 =>
            try simp only [Act.put, List.setIfInBounds_toArray, List.set_cons_zero, List.set_cons_succ]
          refine takeH (i := 6) (v := ?v2_7) rfl (by kernel_rfl) (by kernel_rfl) (by kernel_rfl) (fun _ _ _ h => h) (by rfl) ?y2_7 (O.sel [false, false, true, false, false, true]) ?r2_7
          case y2_7 =>
            intro WW hSw
            (go_simp) <;> (with_reducible rfl)
          case' r2_7 =>
            try simp only [Act.put, List.setIfInBounds_toArray, List.set_cons_zero, List.set_cons_succ]
          refine takeH (i := 7) (v := ?v2_8) rfl (by kernel_rfl) (by kernel_rfl) (by kernel_rfl) (fun _ _ _ h => h) (by rfl) ?y2_8 (O.sel [false, false, true, false, false, true]) ?r2_8
          case y2_8 =>
            intro WW hSw
            replace hSw : Mem _ _ WW _ := hSw
            have cs := hSw.facts
            simp only [sel, factsP, cellsP, roomP, foots_cons, foots_nil, foots_append, foot_pt, ptb, ptb_mapA, foot_mapA, factsP_mapA, foot_bun, List.append_nil, List.nil_append, List.cons_append, List.nodup_cons, List.nodup_nil, List.mem_cons, List.not_mem_nil, List.mem_singleton, List.forall_mem_cons, not_or, not_false_eq_true, and_true, true_and, or_false, false_or, forall_eq_or_imp, forall_eq, implies_true, Nat.zero_add, Nat.reduceAdd, and_assoc, factsP_all, ptb_all, upd_all, Nat.mul_one, hdCells] at cs
            have v1 := PT.out _ _ hSw (by simp [Tk.sel])
            try simp only [cellsQ, roomP, and_assoc, and_true, true_and, Nat.add_zero, Nat.zero_add, Nat.reduceAdd, factsP, cellsP, roomP, foots_cons, foots_nil, foots_append, foot_pt, ptb, ptb_mapA, foot_mapA, factsP_mapA, foot_bun, List.append_nil, List.nil_append, List.cons_append, List.nodup_cons, List.nodup_nil, List.mem_cons, List.not_mem_nil, List.mem_singleton, List.forall_mem_cons, not_or, not_false_eq_true, and_true, true_and, or_false, false_or, forall_eq_or_imp, forall_eq, implies_true, Nat.zero_add, Nat.reduceAdd, and_assoc, factsP_all, ptb_all, upd_all, Nat.mul_one, hdCells] at v1
            (go_simp) <;> (with_reducible rfl)
          case' r2_8 =>
            try simp only [Act.put, List.setIfInBounds_toArray, List.set_cons_zero, List.set_cons_succ]
          refine takeH (i := 8) (v := ?v2_9) rfl (by kernel_rfl) (by kernel_rfl) (by kernel_rfl) (fun _ _ _ h => h) (by rfl) ?y2_9 (O.sel [false, false, true, false, false, true]) ?r2_9
          case y2_9 =>
            intro WW hSw
            replace hSw : Mem _ _ WW _ := hSw
            have cs := hSw.facts
            simp only [sel, factsP, cellsP, roomP, foots_cons, foots_nil, foots_append, foot_pt, ptb, ptb_mapA, foot_mapA, factsP_mapA, foot_bun, List.append_nil, List.nil_append, List.cons_append, List.nodup_cons, List.nodup_nil, List.mem_cons, List.not_mem_nil, List.mem_singleton, List.forall_mem_cons, not_or, not_false_eq_true, and_true, true_and, or_false, false_or, forall_eq_or_imp, forall_eq, implies_true, Nat.zero_add, Nat.reduceAdd, and_assoc, factsP_all, ptb_all, upd_all, Nat.mul_one, hdCells] at cs
            have v1 := PT.out _ _ hSw (by simp [Tk.sel])
            try simp only [cellsQ, roomP, and_assoc, and_true, true_and, Nat.add_zero, Nat.zero_add, Nat.reduceAdd, factsP, cellsP, roomP, foots_cons, foots_nil, foots_append, foot_pt, ptb, ptb_mapA, foot_mapA, factsP_mapA, foot_bun, List.append_nil, List.nil_append, List.cons_append, List.nodup_cons, List.nodup_nil, List.mem_cons, List.not_mem_nil, List.mem_singleton, List.forall_mem_cons, not_or, not_false_eq_true, and_true, true_and, or_false, false_or, forall_eq_or_imp, forall_eq, implies_true, Nat.zero_add, Nat.reduceAdd, and_assoc, factsP_all, ptb_all, upd_all, Nat.mul_one, hdCells] at v1
            (go_simp) <;> (with_reducible rfl)
          case' r2_9 =>
            try simp only [Act.put, List.setIfInBounds_toArray, List.set_cons_zero, List.set_cons_succ]
          refine takeH (i := 9) (v := ?v2_10) rfl (by kernel_rfl) (by kernel_rfl) (by kernel_rfl) (fun _ _ _ h => h) (by rfl) ?y2_10 (O.sel [false, false, true, false, false, true]) ?r2_10
          case y2_10 =>
            intro WW hSw
            (go_simp) <;> (with_reducible rfl)
          case' r2_10 =>
            try simp only [Act.put, List.setIfInBounds_toArray, List.set_cons_zero, List.set_cons_succ]
          refine takeH (i := 10) (v := ?v2_11) rfl (by kernel_rfl) (by kernel_rfl) (by kernel_rfl) (fun _ _ _ h => h) (by rfl) ?y2_11 (O.sel [false, false, true, false, false, true]) ?r2_11
          case y2_11 =>
            intro WW hSw
            (go_simp) <;> (with_reducible rfl)
          case' r2_11 =>
            try simp only [Act.put, List.setIfInBounds_toArray, List.set_cons_zero, List.set_cons_succ]
          refine takeH (i := 11) (v := ?v2_12) rfl (by kernel_rfl) (by kernel_rfl) (by kernel_rfl) (fun _ _ _ h => h) (by rfl) ?y2_12 (O.sel [false, false, true, false, false, true]) ?r2_12
          case y2_12 =>
            intro WW hSw
            (go_simp) <;> (with_reducible rfl)
          case' r2_12 =>
            try simp only [Act.put, List.setIfInBounds_toArray, List.set_cons_zero, List.set_cons_succ]
          refine takeH (i := 12) (v := ?v2_13) rfl (by kernel_rfl) (by kernel_rfl) (by kernel_rfl) (fun _ _ _ h => h) (by rfl) ?y2_13 (O.sel [false, false, true, false, false, true]) ?r2_13
          case y2_13 =>
            intro WW hSw
            (go_simp) <;> (with_reducible rfl)
          case' r2_13 =>
            try simp only [Act.put, List.setIfInBounds_toArray, List.set_cons_zero, List.set_cons_succ]
          refine takeH (i := 13) (v := ?v2_14) rfl (by kernel_rfl) (by kernel_rfl) (by kernel_rfl) (fun _ _ _ h => h) (by rfl) ?y2_14 (O.sel [false, false, true, false, false, true]) ?r2_14
          case y2_14 =>
            intro WW hSw
            (go_simp) <;> (with_reducible rfl)
          case' r2_14 =>
            try simp only [Act.put, List.setIfInBounds_toArray, List.set_cons_zero, List.set_cons_succ]
          refine takeH (i := 14) (v := ?v2_15) rfl (by kernel_rfl) (by kernel_rfl) (by kernel_rfl) (fun _ _ _ h => h) (by rfl) ?y2_15 (O.sel [false, false, true, false, false, true]) ?r2_15
          case y2_15 =>
            intro WW hSw
            (go_simp) <;> (with_reducible rfl)
          case' r2_15 =>
            try simp only [Act.put, List.setIfInBounds_toArray, List.set_cons_zero, List.set_cons_succ]
          refine takeH (i := 15) (v := ?v2_16) rfl (by kernel_rfl) (by kernel_rfl) (by kernel_rfl) (fun _ _ _ h => h) (by rfl) ?y2_16 (O.sel [false, false, true, false, false, true]) ?r2_16
          case y2_16 =>
            intro WW hSw
            (go_simp) <;> (with_reducible rfl)
          case' r2_16 =>
            try simp only [Act.put, List.setIfInBounds_toArray, List.set_cons_zero, List.set_cons_succ]
          refine takeH (i := 16) (v := ?v2_17) rfl (by kernel_rfl) (by kernel_rfl) (by kernel_rfl) (fun _ _ _ h => h) (by rfl) ?y2_17 (O.sel [false, false, true, false, false, true]) ?r2_17
          case y2_17 =>
            intro WW hSw
            replace hSw : Mem _ _ WW _ := hSw
            have cs := hSw.facts
            simp only [sel, factsP, cellsP, roomP, foots_cons, foots_nil, foots_append, foot_pt, ptb, ptb_mapA, foot_mapA, factsP_mapA, foot_bun, List.append_nil, List.nil_append, List.cons_append, List.nodup_cons, List.nodup_nil, List.mem_cons, List.not_mem_nil, List.mem_singleton, List.forall_mem_cons, not_or, not_false_eq_true, and_true, true_and, or_false, false_or, forall_eq_or_imp, forall_eq, implies_true, Nat.zero_add, Nat.reduceAdd, and_assoc, factsP_all, ptb_all, upd_all, Nat.mul_one, hdCells] at cs
            have v1 := PT.out _ _ hSw (by simp [Tk.sel])
            try simp only [cellsQ, roomP, and_assoc, and_true, true_and, Nat.add_zero, Nat.zero_add, Nat.reduceAdd, factsP, cellsP, roomP, foots_cons, foots_nil, foots_append, foot_pt, ptb, ptb_mapA, foot_mapA, factsP_mapA, foot_bun, List.append_nil, List.nil_append, List.cons_append, List.nodup_cons, List.nodup_nil, List.mem_cons, List.not_mem_nil, List.mem_singleton, List.forall_mem_cons, not_or, not_false_eq_true, and_true, true_and, or_false, false_or, forall_eq_or_imp, forall_eq, implies_true, Nat.zero_add, Nat.reduceAdd, and_assoc, factsP_all, ptb_all, upd_all, Nat.mul_one, hdCells] at v1
            (go_simp) <;> (with_reducible rfl)
          case' r2_17 =>
            try simp only [Act.put, List.setIfInBounds_toArray, List.set_cons_zero, List.set_cons_succ]
          refine takeH (i := 17) (v := ?v2_18) rfl (by kernel_rfl) (by kernel_rfl) (by kernel_rfl) (fun _ _ _ h => h) (by rfl) ?y2_18 (O.sel [false, false, true, false, false, true]) ?r2_18
          case y2_18 =>
            intro WW hSw
            replace hSw : Mem _ _ WW _ := hSw
            have cs := hSw.facts
            simp only [sel, factsP, cellsP, roomP, foots_cons, foots_nil, foots_append, foot_pt, ptb, ptb_mapA, foot_mapA, factsP_mapA, foot_bun, List.append_nil, List.nil_append, List.cons_append, List.nodup_cons, List.nodup_nil, List.mem_cons, List.not_mem_nil, List.mem_singleton, List.forall_mem_cons, not_or, not_false_eq_true, and_true, true_and, or_false, false_or, forall_eq_or_imp, forall_eq, implies_true, Nat.zero_add, Nat.reduceAdd, and_assoc, factsP_all, ptb_all, upd_all, Nat.mul_one, hdCells] at cs
            have v1 := PT.out _ _ hSw (by simp [Tk.sel])
            try simp only [cellsQ, roomP, and_assoc, and_true, true_and, Nat.add_zero, Nat.zero_add, Nat.reduceAdd, factsP, cellsP, roomP, foots_cons, foots_nil, foots_append, foot_pt, ptb, ptb_mapA, foot_mapA, factsP_mapA, foot_bun, List.append_nil, List.nil_append, List.cons_append, List.nodup_cons, List.nodup_nil, List.mem_cons, List.not_mem_nil, List.mem_singleton, List.forall_mem_cons, not_or, not_false_eq_true, and_true, true_and, or_false, false_or, forall_eq_or_imp, forall_eq, implies_true, Nat.zero_add, Nat.reduceAdd, and_assoc, factsP_all, ptb_all, upd_all, Nat.mul_one, hdCells] at v1
            (go_simp) <;> (with_reducible rfl)
          case' r2_18 =>
            try simp only [Act.put, List.setIfInBounds_toArray, List.set_cons_zero, List.set_cons_succ]
          refine takeH (i := 18) (v := ?v2_19) rfl (by kernel_rfl) (by kernel_rfl) (by kernel_rfl) (fun _ _ _ h => h) (by rfl) ?y2_19 (O.sel [false, false, true, false, false, true]) ?r2_19
          case y2_19 =>
            intro WW hSw
            replace hSw : Mem _ _ WW _ := hSw
            have cs := hSw.facts
            simp only [sel, factsP, cellsP, roomP, foots_cons, foots_nil, foots_append, foot_pt, ptb, ptb_mapA, foot_mapA, factsP_mapA, foot_bun, List.append_nil, List.nil_append, List.cons_append, List.nodup_cons, List.nodup_nil, List.mem_cons, List.not_mem_nil, List.mem_singleton, List.forall_mem_cons, not_or, not_false_eq_true, and_true, true_and, or_false, false_or, forall_eq_or_imp, forall_eq, implies_true, Nat.zero_add, Nat.reduceAdd, and_assoc, factsP_all, ptb_all, upd_all, Nat.mul_one, hdCells] at cs
            have v1 := PT.out _ _ hSw (by simp [Tk.sel])
            try simp only [cellsQ, roomP, and_assoc, and_true, true_and, Nat.add_zero, Nat.zero_add, Nat.reduceAdd, factsP, cellsP, roomP, foots_cons, foots_nil, foots_append, foot_pt, ptb, ptb_mapA, foot_mapA, factsP_mapA, foot_bun, List.append_nil, List.nil_append, List.cons_append, List.nodup_cons, List.nodup_nil, List.mem_cons, List.not_mem_nil, List.mem_singleton, List.forall_mem_cons, not_or, not_false_eq_true, and_true, true_and, or_false, false_or, forall_eq_or_imp, forall_eq, implies_true, Nat.zero_add, Nat.reduceAdd, and_assoc, factsP_all, ptb_all, upd_all, Nat.mul_one, hdCells] at v1
            (go_simp) <;> (with_reducible rfl)
          case' r2_19 =>
            try simp only [Act.put, List.setIfInBounds_toArray, List.set_cons_zero, List.set_cons_succ]
          refine wpAnyH_ready (rs := [19]) (by kernel_rfl) (by simp) ?_
          refine consH rfl (fun K hK => ?_) AllReadyH.nil
          have cs := O.facts
          simp only [factsP, cellsP, roomP, foots_cons, foots_nil, foots_append, foot_pt, ptb, ptb_mapA, foot_mapA, factsP_mapA, foot_bun, List.append_nil, List.nil_append, List.cons_append, List.nodup_cons, List.nodup_nil, List.mem_cons, List.not_mem_nil, List.mem_singleton, List.forall_mem_cons, not_or, not_false_eq_true, and_true, true_and, or_false, false_or, forall_eq_or_imp, forall_eq, implies_true, Nat.zero_add, Nat.reduceAdd, and_assoc, factsP_all, ptb_all, upd_all, Nat.mul_one, hdCells] at cs
          have v1 := PT.out _ _ O (by simp [Tk.sel])
          try simp only [cellsQ, roomP, and_assoc, and_true, true_and, Nat.add_zero, Nat.zero_add, Nat.reduceAdd, factsP, cellsP, roomP, foots_cons, foots_nil, foots_append, foot_pt, ptb, ptb_mapA, foot_mapA, factsP_mapA, foot_bun, List.append_nil, List.nil_append, List.cons_append, List.nodup_cons, List.nodup_nil, List.mem_cons, List.not_mem_nil, List.mem_singleton, List.forall_mem_cons, not_or, not_false_eq_true, and_true, true_and, or_false, false_or, forall_eq_or_imp, forall_eq, implies_true, Nat.zero_add, Nat.reduceAdd, and_assoc, factsP_all, ptb_all, upd_all, Nat.mul_one, hdCells] at v1
          go_simp
          apply Mem.atCall
          case h => repeat' (first | (with_reducible exact O) | (with_reducible apply Mem.drew) | (with_reducible apply Mem.drewN) | (with_reducible apply Mem.ext) | (with_reducible apply Mem.alloc) | (with_reducible apply Mem.setCell) | (simp only [ptb, ptb_upd, foots_cons, List.mem_cons, World.size_alloc, size_ext, World.size_setCell, true_or, or_true, eq_self_iff_true, ptb_all]))
          intro w2_20 O'
          (try clear O)
          have O := O'
          clear O'
          (first | simp only [sel, rst, List.cons_append, List.nil_append, World.size_alloc, size_ext, World.size_setCell, size_setMap, World.size_drew, size_drewN, upd, List.set_cons_zero, List.set_cons_succ, if_true, if_false, reduceIte, not_false_eq_true, ne_lt0, ne_lt1, ne_lt2, ne_lt3, ne_lt4, upd_all, cs] at O | simp only [sel, rst, List.cons_append, List.nil_append, World.size_alloc, size_ext, World.size_setCell, size_setMap, World.size_drew, size_drewN, upd, List.set_cons_zero, List.set_cons_succ, if_true, if_false, reduceIte, not_false_eq_true, ne_lt0, ne_lt1, ne_lt2, ne_lt3, ne_lt4, upd_all] at O | skip)
          (try clear cs)
          (try clear v1)
          (try clear v2)
          (try clear v3)
          refine (CK.out _ (O.pre [true]) (fun W' f => HT.out.fr (O.frOf [true] f))).mono ?_
          rintro e w2_20' ⟨M, hM, rfl, o⟩
          replace O := O.callp [true] o
          clear o
          simp only [put, List.cons_append, List.nil_append] at O
          go_wp2_with fail
          refine hK.out _ _ (O.sel [false, false, true, false, false, true]) (fun _ => ?_)
          clear hK K
          refine takeH (i := 20) (v := ?v2_21) rfl (by kernel_rfl) (by kernel_rfl) (by kernel_rfl) (fun _ _ _ h => h) (by rfl) ?y2_21 (O.sel [false, false, true, false, false, true]) ?r2_21
          case y2_21 =>
            intro WW hSw
            (go_simp) <;> (with_reducible rfl)
          case' r2_21 =>
            try simp only [Act.put, List.setIfInBounds_toArray, List.set_cons_zero, List.set_cons_succ]
          refine takeH (i := 21) (v := ?v2_22) rfl (by kernel_rfl) (by kernel_rfl) (by kernel_rfl) (fun _ _ _ h => h) (by rfl) ?y2_22 (O.sel [false, false, true, false, false, true]) ?r2_22
          case y2_22 =>
            intro WW hSw
            (go_simp) <;> (with_reducible rfl)
          case' r2_22 =>
            try simp only [Act.put, List.setIfInBounds_toArray, List.set_cons_zero, List.set_cons_succ]
          refine wpAnyH_done (by kernel_rfl) ?_ _
          skip
          have cs := O.facts
          try simp only [factsP, cellsP, roomP, foots_cons, foots_nil, foots_append, foot_pt, ptb, ptb_mapA, foot_mapA, factsP_mapA, foot_bun, List.append_nil, List.nil_append, List.cons_append, List.nodup_cons, List.nodup_nil, List.mem_cons, List.not_mem_nil, List.mem_singleton, List.forall_mem_cons, not_or, not_false_eq_true, and_true, true_and, or_false, false_or, forall_eq_or_imp, forall_eq, implies_true, Nat.zero_add, Nat.reduceAdd, and_assoc, factsP_all, ptb_all, upd_all, Nat.mul_one, hdCells] at cs
          go_wp2_with fail
          replace O := ((((((O).front [false, false, false, false, false, true]).front [false, false, false, false, false, true]).front [false, false, true]).front [false, false, false, false, true]).front [false, false, false, false, false, true]).front [false, false, false, false, false, true]
          simp only [Tk.sel, rst, List.cons_append, List.nil_append] at O
          replace O := O.sel [true, true, true, true, true, true]
          simp only [Tk.sel] at O
          replace O := O.famSnoc
          replace O := (((((O).front [false, false, false, false, true]).front [false, false, true]).front [false, false, true]).front [false, false, false, false, true]).front [false, false, false, false, true]
          simp only [Tk.sel, rst, List.cons_append, List.nil_append] at O
          replace O := O.sel [true, true, true, true, true]
          simp only [Tk.sel] at O
          replace O := O.famSnoc
          replace O := ((((O).front [false, false, false, true]).front [false, true]).front [false, false, true]).front [false, false, false, true]
          simp only [Tk.sel, rst, List.cons_append, List.nil_append] at O
          replace O := O.sel [true, true, true, true]
          simp only [Tk.sel] at O
          go_roundw
          case rel =>
            refine ⟨k + 1, ws3, _, _, us ++ [⟨ab, am, []⟩], ms ++ [M], by omega, by go_num, HC3.out, by simp [HUL.out], fun j T hj => ?_, by simp [HML.out], fun j N hj => ?_, O⟩
            · rcases snoc_at HUL.out hj with ⟨h1, h2⟩ | ⟨rfl, rfl⟩
              · rw [upd3_ne _ _ h1]
                exact HU.out j T h2
              · exact ⟨upd3_same _ _ _, rfl⟩
            · rcases snoc_at HML.out hj with ⟨h1, h2⟩ | ⟨rfl, rfl⟩
              · rw [upd3_ne _ _ h1]
                exact HM.out j N h2
              · exact ⟨by rw [upd3_same, hM.1], hM.2⟩
          case measure => simp [intOf]; omega
      · obtain rfl : k = 3 := by omega
        have hkf : ((3 : Int) < 3) = False := by simp
        have O := O.listNil (e := 89) (size := 6) (cs := hdCells)
        replace O := (((((O).front [false, false, false, false, true]).front [false, true]).front [false, false, false, false, true]).front [false, false, false, false, true]).front [false, false, false, false, true]
        simp only [Tk.sel, rst, List.cons_append, List.nil_append] at O
        replace O := O.sel [true, true, true, true, true]
        simp only [Tk.sel] at O
        have hA0 : AG w xb tb (TxS.mk tid tcl t0 t1 t2 (some ⟨bx, ox, none⟩) tc ts) 0 0 wr := ⟨Wd.zero, fun _ _ => .empty, ws, pt, pm, us, ms, none, 0, by rw [HN.out]; exact HC.out, ⟨HUL.out, fun j T hj => HU.out j T hj⟩, ⟨HML.out, fun j M hj => (HM.out j M hj).1⟩, AW.zero (fun j E hj => by
          rw [List.getElem?_map] at hj
          cases hm : ms[j]? with
          | none => rw [hm] at hj; simp at hj
          | some M =>
            rw [hm] at hj
            simp only [Option.map_some, Option.some.injEq] at hj
            exact hj ▸ ME.new (HM.out j M hm).2 ⟨w, HT.out⟩ HRT.out), by simp only [wldL, txCells, HN.out]; exact O⟩
        have HA0 := Lib.hid hA0
        clear hA0 HC HU HM HUL HML
        skip
        have cs := O.facts
        try simp only [factsP, cellsP, roomP, foots_cons, foots_nil, foots_append, foot_pt, ptb, ptb_mapA, foot_mapA, factsP_mapA, foot_bun, List.append_nil, List.nil_append, List.cons_append, List.nodup_cons, List.nodup_nil, List.mem_cons, List.not_mem_nil, List.mem_singleton, List.forall_mem_cons, not_or, not_false_eq_true, and_true, true_and, or_false, false_or, forall_eq_or_imp, forall_eq, implies_true, Nat.zero_add, Nat.reduceAdd, and_assoc, factsP_all, ptb_all, upd_all, Nat.mul_one, hdCells] at cs
        go_wp2_with fail
        clear cs O
        rw [show (((3 : Nat)) : Int) = 3 from rfl]
        go_loopw [10, 11] (fun s10 s11 wr => ∃ (k : Nat) (d : Int), k ≤ 300 ∧ s11 = .int .i64 k ∧ s10 = .int .i64 d ∧ AG w xb tb (TxS.mk tid tcl t0 t1 t2 (some ⟨bx, ox, none⟩) tc ts) k d wr) (fun _ s11 _ => 300 - (intOf s11).toNat)
        case atStart => exact ⟨0, 0, by omega, rfl, rfl, HA0.out⟩
        case round =>
          clear HA0
          obtain ⟨k, d, hk3, rfl, rfl, hAG⟩ := hrel
          by_cases hk : k < ev.length ∧ k < 300
          · obtain ⟨hk1, hk2⟩ := hk
            have hk1i : (k : Int) < ev.length := by omega
            have hk2i : (k : Int) < 300 := by omega
            obtain ⟨wd, own, ws, pt, pm, us, ms, LA, lc, hC, hT, hM, hW, O⟩ := hAG
            have HC := Lib.hid (show Wc ws tid (some ⟨bx, ox, none⟩) n tc pt pm own wd.round LA wd.l.length lc by rw [← HN.out]; exact hC)
            have HTb := Lib.hid hT
            have HMn := Lib.hid hM
            have HW := Lib.hid hW
            clear hC hT hM hW
            have hq := HS.out k _ (List.getElem?_eq_getElem hk1)
            have hv := HV.out _ (List.getElem_mem hk1)
            generalize ev[k] = v at hq hv
            obtain ⟨vk, vi, vr, va, vm, vn, vy⟩ := v
            obtain ⟨hvi, hvr, hva, hvm, hvn⟩ := hv
            simp only at hvi hvr hva hvm hvn
            obtain ⟨bs, os, rfl, hbs, hqs⟩ := hq
            have VE := Lib.hid (fun W (h : Fr [] w W) => arg_view hbs hqs h)
            simp only [EvR.cells, cellsQ, Nat.add_zero, and_true, Nat.reduceAdd, Nat.zero_add] at VE
            have CPI := Lib.hid (fun W => q_pick vi n hvi hpos (by omega) W)
            have CPR := Lib.hid (fun W => (q_pick vr 4 hvr (by omega) (by omega) W : Calls Try.prog 11 #[.int .i64 vr, .int .i64 4] W _))
            have hi : pickN vi n < n := pickN_lt hpos
            have hr : pickN vr 4 < 4 := pickN_lt (by omega)
            generalize pickN vi n = i at CPI hi
            generalize pickN vr 4 = r at CPR hr
            have hii : (i : Int) < n := by omega
            have hrr : (r : Int) < 4 := by omega
            clear hbs hqs
            simp only [wldL, txCells, HN.out] at O
            have hlts : i < ts.length := by rw [HN.out]; exact hi
            obtain ⟨x, hx⟩ : ∃ x, ts[i]? = some x := ⟨_, List.getElem?_eq_getElem hlts⟩
            obtain ⟨bx', ox', hA, hbx, hqx⟩ := HT.out.at_ _ x hx
            simp only [Option.some.injEq, Addr.mk.injEq] at hA
            obtain ⟨rfl, rfl, _⟩ := hA
            skip
            have cs := O.facts
            try simp only [factsP, cellsP, roomP, foots_cons, foots_nil, foots_append, foot_pt, ptb, ptb_mapA, foot_mapA, factsP_mapA, foot_bun, List.append_nil, List.nil_append, List.cons_append, List.nodup_cons, List.nodup_nil, List.mem_cons, List.not_mem_nil, List.mem_singleton, List.forall_mem_cons, not_or, not_false_eq_true, and_true, true_and, or_false, false_or, forall_eq_or_imp, forall_eq, implies_true, Nat.zero_add, Nat.reduceAdd, and_assoc, factsP_all, ptb_all, upd_all, Nat.mul_one, hdCells] at cs
            have v1 := VE.out _ O.fr
            try simp only [cellsQ, roomP, and_assoc, and_true, true_and, Nat.add_zero, Nat.zero_add, Nat.reduceAdd, factsP, cellsP, roomP, foots_cons, foots_nil, foots_append, foot_pt, ptb, ptb_mapA, foot_mapA, factsP_mapA, foot_bun, List.append_nil, List.nil_append, List.cons_append, List.nodup_cons, List.nodup_nil, List.mem_cons, List.not_mem_nil, List.mem_singleton, List.forall_mem_cons, not_or, not_false_eq_true, and_true, true_and, or_false, false_or, forall_eq_or_imp, forall_eq, implies_true, Nat.zero_add, Nat.reduceAdd, and_assoc, factsP_all, ptb_all, upd_all, Nat.mul_one, hdCells] at v1
            go_upto_region 18 with fail
            first | apply Mem.atCall | apply Mem.atCode | apply Mem.atList
            case h => repeat' (first | (with_reducible exact O) | (with_reducible apply Mem.drew) | (with_reducible apply Mem.drewN) | (with_reducible apply Mem.ext) | (with_reducible apply Mem.alloc) | (with_reducible apply Mem.setCell) | (simp only [ptb, ptb_upd, foots_cons, List.mem_cons, World.size_alloc, size_ext, World.size_setCell, true_or, or_true, eq_self_iff_true, ptb_all]))
            case' k =>
              intro y1 O'
              (try clear O)
              have O := O'
              clear O'
              (first | simp only [sel, rst, List.cons_append, List.nil_append, World.size_alloc, size_ext, World.size_setCell, size_setMap, World.size_drew, size_drewN, upd, List.set_cons_zero, List.set_cons_succ, if_true, if_false, reduceIte, not_false_eq_true, ne_lt0, ne_lt1, ne_lt2, ne_lt3, ne_lt4, upd_all, cs] at O | simp only [sel, rst, List.cons_append, List.nil_append, World.size_alloc, size_ext, World.size_setCell, size_setMap, World.size_drew, size_drewN, upd, List.set_cons_zero, List.set_cons_succ, if_true, if_false, reduceIte, not_false_eq_true, ne_lt0, ne_lt1, ne_lt2, ne_lt3, ne_lt4, upd_all] at O | skip)
              (try clear cs)
              (try clear v1)
              (try clear v2)
              (try clear v3)
            generalize wr.heap.size = vb at O ⊢
            skip
            have cs := O.facts
            try simp only [factsP, cellsP, roomP, foots_cons, foots_nil, foots_append, foot_pt, ptb, ptb_mapA, foot_mapA, factsP_mapA, foot_bun, List.append_nil, List.nil_append, List.cons_append, List.nodup_cons, List.nodup_nil, List.mem_cons, List.not_mem_nil, List.mem_singleton, List.forall_mem_cons, not_or, not_false_eq_true, and_true, true_and, or_false, false_or, forall_eq_or_imp, forall_eq, implies_true, Nat.zero_add, Nat.reduceAdd, and_assoc, factsP_all, ptb_all, upd_all, Nat.mul_one, hdCells] at cs
            go_wp2_with fail
            first | apply Mem.atCall | apply Mem.atCode | apply Mem.atList
            case h => repeat' (first | (with_reducible exact O) | (with_reducible apply Mem.drew) | (with_reducible apply Mem.drewN) | (with_reducible apply Mem.ext) | (with_reducible apply Mem.alloc) | (with_reducible apply Mem.setCell) | (simp only [ptb, ptb_upd, foots_cons, List.mem_cons, World.size_alloc, size_ext, World.size_setCell, true_or, or_true, eq_self_iff_true, ptb_all]))
            case' k =>
              intro y2 O'
              (try clear O)
              have O := O'
              clear O'
              (first | simp only [sel, rst, List.cons_append, List.nil_append, World.size_alloc, size_ext, World.size_setCell, size_setMap, World.size_drew, size_drewN, upd, List.set_cons_zero, List.set_cons_succ, if_true, if_false, reduceIte, not_false_eq_true, ne_lt0, ne_lt1, ne_lt2, ne_lt3, ne_lt4, upd_all, cs] at O | simp only [sel, rst, List.cons_append, List.nil_append, World.size_alloc, size_ext, World.size_setCell, size_setMap, World.size_drew, size_drewN, upd, List.set_cons_zero, List.set_cons_succ, if_true, if_false, reduceIte, not_false_eq_true, ne_lt0, ne_lt1, ne_lt2, ne_lt3, ne_lt4, upd_all] at O | skip)
              (try clear cs)
              (try clear v1)
              (try clear v2)
              (try clear v3)
            refine (CPI.out _).mono ?_
            rintro e y3 ⟨rfl, o⟩
            replace O := O.callp [] o
            clear o
            simp only [put, List.cons_append, List.nil_append] at O
            have cs := O.facts
            try simp only [factsP, cellsP, roomP, foots_cons, foots_nil, foots_append, foot_pt, ptb, ptb_mapA, foot_mapA, factsP_mapA, foot_bun, List.append_nil, List.nil_append, List.cons_append, List.nodup_cons, List.nodup_nil, List.mem_cons, List.not_mem_nil, List.mem_singleton, List.forall_mem_cons, not_or, not_false_eq_true, and_true, true_and, or_false, false_or, forall_eq_or_imp, forall_eq, implies_true, Nat.zero_add, Nat.reduceAdd, and_assoc, factsP_all, ptb_all, upd_all, Nat.mul_one, hdCells] at cs
            go_wp2_with fail
            first | apply Mem.atCall | apply Mem.atCode | apply Mem.atList
            case h => repeat' (first | (with_reducible exact O) | (with_reducible apply Mem.drew) | (with_reducible apply Mem.drewN) | (with_reducible apply Mem.ext) | (with_reducible apply Mem.alloc) | (with_reducible apply Mem.setCell) | (simp only [ptb, ptb_upd, foots_cons, List.mem_cons, World.size_alloc, size_ext, World.size_setCell, true_or, or_true, eq_self_iff_true, ptb_all]))
            case' k =>
              intro y4 O'
              (try clear O)
              have O := O'
              clear O'
              (first | simp only [sel, rst, List.cons_append, List.nil_append, World.size_alloc, size_ext, World.size_setCell, size_setMap, World.size_drew, size_drewN, upd, List.set_cons_zero, List.set_cons_succ, if_true, if_false, reduceIte, not_false_eq_true, ne_lt0, ne_lt1, ne_lt2, ne_lt3, ne_lt4, upd_all, cs] at O | simp only [sel, rst, List.cons_append, List.nil_append, World.size_alloc, size_ext, World.size_setCell, size_setMap, World.size_drew, size_drewN, upd, List.set_cons_zero, List.set_cons_succ, if_true, if_false, reduceIte, not_false_eq_true, ne_lt0, ne_lt1, ne_lt2, ne_lt3, ne_lt4, upd_all] at O | skip)
              (try clear cs)
              (try clear v1)
              (try clear v2)
              (try clear v3)
            refine (CPR.out _).mono ?_
            rintro e y5 ⟨rfl, o⟩
            replace O := O.callp [] o
            clear o
            simp only [put, List.cons_append, List.nil_append] at O
            have cs := O.facts
            try simp only [factsP, cellsP, roomP, foots_cons, foots_nil, foots_append, foot_pt, ptb, ptb_mapA, foot_mapA, factsP_mapA, foot_bun, List.append_nil, List.nil_append, List.cons_append, List.nodup_cons, List.nodup_nil, List.mem_cons, List.not_mem_nil, List.mem_singleton, List.forall_mem_cons, not_or, not_false_eq_true, and_true, true_and, or_false, false_or, forall_eq_or_imp, forall_eq, implies_true, Nat.zero_add, Nat.reduceAdd, and_assoc, factsP_all, ptb_all, upd_all, Nat.mul_one, hdCells] at cs
            go_upto_block 4 with fail
            go_cut [] (fun wc => AG w xb tb (TxS.mk tid tcl t0 t1 t2 (some ⟨bx, ox, none⟩) tc ts) (k + 1) d wc)
            case first =>
              have hl6 : wd.l.length ≤ 600 := by have := HW.out.hl; omega
              by_cases h2 : vk = 2 ∧ 0 < wd.l.length
              · as_aux_lemma =>
                  obtain ⟨rfl, hl0⟩ := h2
                  have hl0i : (0 : Int) < (wd.l.length : Int) := by omega
                  have c45 := HC.out.l
                  have CPN := Lib.hid (fun W => q_pick vn wd.l.length hvn (by omega) (by omega) W)
                  have hj : pickN vn wd.l.length < wd.l.length := pickN_lt (by omega)
                  generalize pickN vn wd.l.length = j at CPN hj
                  have hje : wd.l[j]? = some wd.l[j] := List.getElem?_eq_getElem hj
                  have hjm : wd.l[j] ∈ wd.l := List.getElem_mem hj
                  generalize wd.l[j] = e at hje hjm
                  have hes := HW.out.hs e hjm
                  obtain ⟨g, rfl, _⟩ := listA_get hdLen (O.hold (hdA LA lc wd.l) (by simp)) hje
                  have hji : (j : Int) < (wd.l.length : Int) := by omega
                  obtain ⟨⟨etx, ebk, er, eix⟩, ek, ⟨ebr, ebn⟩, evv⟩ := e
                  simp only at hes
                  obtain ⟨he1, rfl, hewf⟩ := hes
                  subst etx
                  have PT := Lib.hid (fun (W : World) (L : List Asn) (O : Mem w [] W L) (hm : Asn.pt xb ws 83 ∈ L) => ptCell O hm c45)
                  have HJE := Lib.hid hje
                  clear hje c45 hj
                  skip
                  have cs := O.facts
                  try simp only [factsP, cellsP, roomP, foots_cons, foots_nil, foots_append, foot_pt, ptb, ptb_mapA, foot_mapA, factsP_mapA, foot_bun, List.append_nil, List.nil_append, List.cons_append, List.nodup_cons, List.nodup_nil, List.mem_cons, List.not_mem_nil, List.mem_singleton, List.forall_mem_cons, not_or, not_false_eq_true, and_true, true_and, or_false, false_or, forall_eq_or_imp, forall_eq, implies_true, Nat.zero_add, Nat.reduceAdd, and_assoc, factsP_all, ptb_all, upd_all, Nat.mul_one, hdCells] at cs
                  have v1 := PT.out _ _ O (by simp [Tk.sel])
                  try simp only [cellsQ, roomP, and_assoc, and_true, true_and, Nat.add_zero, Nat.zero_add, Nat.reduceAdd, factsP, cellsP, roomP, foots_cons, foots_nil, foots_append, foot_pt, ptb, ptb_mapA, foot_mapA, factsP_mapA, foot_bun, List.append_nil, List.nil_append, List.cons_append, List.nodup_cons, List.nodup_nil, List.mem_cons, List.not_mem_nil, List.mem_singleton, List.forall_mem_cons, not_or, not_false_eq_true, and_true, true_and, or_false, false_or, forall_eq_or_imp, forall_eq, implies_true, Nat.zero_add, Nat.reduceAdd, and_assoc, factsP_all, ptb_all, upd_all, Nat.mul_one, hdCells] at v1
                  have v2 := (listA_at hdLen (O.hold (hdA (some ⟨g, 0, none⟩) lc wd.l) (by simp [Tk.sel])) HJE.out)
                  try simp only [cellsQ, roomP, and_assoc, and_true, true_and, Nat.add_zero, Nat.zero_add, Nat.reduceAdd, factsP, cellsP, roomP, foots_cons, foots_nil, foots_append, foot_pt, ptb, ptb_mapA, foot_mapA, factsP_mapA, foot_bun, List.append_nil, List.nil_append, List.cons_append, List.nodup_cons, List.nodup_nil, List.mem_cons, List.not_mem_nil, List.mem_singleton, List.forall_mem_cons, not_or, not_false_eq_true, and_true, true_and, or_false, false_or, forall_eq_or_imp, forall_eq, implies_true, Nat.zero_add, Nat.reduceAdd, and_assoc, factsP_all, ptb_all, upd_all, Nat.mul_one, hdCells] at v2
                  go_upto_region 21 with fail
                  apply region_held_mem [true, true, false, false, true] (by kernel_rfl)
                  case O => repeat' (first | (with_reducible exact O) | (with_reducible apply Mem.drew) | (with_reducible apply Mem.drewN) | (with_reducible apply Mem.ext) | (with_reducible apply Mem.alloc) | (with_reducible apply Mem.setCell) | (simp only [ptb, ptb_upd, foots_cons, List.mem_cons, World.size_alloc, size_ext, World.size_setCell, true_or, or_true, eq_self_iff_true, ptb_all]))
                  case' h =>
                    intro wr3 O'
                    (try clear O)
                    have O := O'
                    clear O'
                    (first | simp only [sel, rst, List.cons_append, List.nil_append, World.size_alloc, size_ext, World.size_setCell, size_setMap, World.size_drew, size_drewN, upd, List.set_cons_zero, List.set_cons_succ, if_true, if_false, reduceIte, not_false_eq_true, ne_lt0, ne_lt1, ne_lt2, ne_lt3, ne_lt4, upd_all, cs] at O | simp only [sel, rst, List.cons_append, List.nil_append, World.size_alloc, size_ext, World.size_setCell, size_setMap, World.size_drew, size_drewN, upd, List.set_cons_zero, List.set_cons_succ, if_true, if_false, reduceIte, not_false_eq_true, ne_lt0, ne_lt1, ne_lt2, ne_lt3, ne_lt4, upd_all] at O | skip)
                    (try clear cs)
                    (try clear v1)
                    (try clear v2)
                    (try clear v3)
                  refine takeH (i := 0) (v := ?v3_1) rfl (by kernel_rfl) (by kernel_rfl) (by kernel_rfl) (fun _ _ _ h => h) (by rfl) ?y3_1 (O.sel [true, true, false, false, true]) ?r3_1
                  case y3_1 =>
                    intro WW hSw
                    (go_simp) <;> (with_reducible rfl)
                  case' r3_1 =>
                    try simp only [Act.put, List.setIfInBounds_toArray, List.set_cons_zero, List.set_cons_succ]
                  refine takeH (i := 1) (v := ?v3_2) rfl (by kernel_rfl) (by kernel_rfl) (by kernel_rfl) (fun _ _ _ h => h) (by rfl) ?y3_2 (O.sel [true, true, false, false, true]) ?r3_2
                  case y3_2 =>
                    intro WW hSw
                    (go_simp) <;> (with_reducible rfl)
                  case' r3_2 =>
                    try simp only [Act.put, List.setIfInBounds_toArray, List.set_cons_zero, List.set_cons_succ]
                  refine takeH (i := 2) (v := ?v3_3) rfl (by kernel_rfl) (by kernel_rfl) (by kernel_rfl) (fun _ _ _ h => h) (by rfl) ?y3_3 (O.sel [true, true, false, false, true]) ?r3_3
                  case y3_3 =>
                    intro WW hSw
                    (go_simp) <;> (with_reducible rfl)
                  case' r3_3 =>
                    try simp only [Act.put, List.setIfInBounds_toArray, List.set_cons_zero, List.set_cons_succ]
                  refine takeH (i := 3) (v := ?v3_4) rfl (by kernel_rfl) (by kernel_rfl) (by kernel_rfl) (fun _ _ _ h => h) (by rfl) ?y3_4 (O.sel [true, true, false, false, true]) ?r3_4
                  case y3_4 =>
                    intro WW hSw
                    replace hSw : Mem _ _ WW _ := hSw
                    have cs := hSw.facts
                    simp only [sel, factsP, cellsP, roomP, foots_cons, foots_nil, foots_append, foot_pt, ptb, ptb_mapA, foot_mapA, factsP_mapA, foot_bun, List.append_nil, List.nil_append, List.cons_append, List.nodup_cons, List.nodup_nil, List.mem_cons, List.not_mem_nil, List.mem_singleton, List.forall_mem_cons, not_or, not_false_eq_true, and_true, true_and, or_false, false_or, forall_eq_or_imp, forall_eq, implies_true, Nat.zero_add, Nat.reduceAdd, and_assoc, factsP_all, ptb_all, upd_all, Nat.mul_one, hdCells] at cs
                    have v1 := PT.out _ _ hSw (by simp [Tk.sel])
                    try simp only [cellsQ, roomP, and_assoc, and_true, true_and, Nat.add_zero, Nat.zero_add, Nat.reduceAdd, factsP, cellsP, roomP, foots_cons, foots_nil, foots_append, foot_pt, ptb, ptb_mapA, foot_mapA, factsP_mapA, foot_bun, List.append_nil, List.nil_append, List.cons_append, List.nodup_cons, List.nodup_nil, List.mem_cons, List.not_mem_nil, List.mem_singleton, List.forall_mem_cons, not_or, not_false_eq_true, and_true, true_and, or_false, false_or, forall_eq_or_imp, forall_eq, implies_true, Nat.zero_add, Nat.reduceAdd, and_assoc, factsP_all, ptb_all, upd_all, Nat.mul_one, hdCells] at v1
                    have v2 := (listA_at hdLen (hSw.hold (hdA (some ⟨g, 0, none⟩) lc wd.l) (by simp [Tk.sel])) HJE.out)
                    try simp only [cellsQ, roomP, and_assoc, and_true, true_and, Nat.add_zero, Nat.zero_add, Nat.reduceAdd, factsP, cellsP, roomP, foots_cons, foots_nil, foots_append, foot_pt, ptb, ptb_mapA, foot_mapA, factsP_mapA, foot_bun, List.append_nil, List.nil_append, List.cons_append, List.nodup_cons, List.nodup_nil, List.mem_cons, List.not_mem_nil, List.mem_singleton, List.forall_mem_cons, not_or, not_false_eq_true, and_true, true_and, or_false, false_or, forall_eq_or_imp, forall_eq, implies_true, Nat.zero_add, Nat.reduceAdd, and_assoc, factsP_all, ptb_all, upd_all, Nat.mul_one, hdCells] at v2
                    (go_simp) <;> (with_reducible rfl)
                  case' r3_4 =>
                    try simp only [Act.put, List.setIfInBounds_toArray, List.set_cons_zero, List.set_cons_succ]
                  refine takeH (i := 4) (v := ?v3_5) rfl (by kernel_rfl) (by kernel_rfl) (by kernel_rfl) (fun _ _ _ h => h) (by rfl) ?y3_5 (O.sel [true, true, false, false, true]) ?r3_5
                  case y3_5 =>
                    intro WW hSw
                    (go_simp) <;> (with_reducible rfl)
                  case' r3_5 =>
                    try simp only [Act.put, List.setIfInBounds_toArray, List.set_cons_zero, List.set_cons_succ]
                  refine takeH (i := 5) (v := ?v3_6) rfl (by kernel_rfl) (by kernel_rfl) (by kernel_rfl) (fun _ _ _ h => h) (by rfl) ?y3_6 (O.sel [true, true, false, false, true]) ?r3_6
                  case y3_6 =>
                    intro WW hSw
                    replace hSw : Mem _ _ WW _ := hSw
                    have cs := hSw.facts
                    simp only [sel, factsP, cellsP, roomP, foots_cons, foots_nil, foots_append, foot_pt, ptb, ptb_mapA, foot_mapA, factsP_mapA, foot_bun, List.append_nil, List.nil_append, List.cons_append, List.nodup_cons, List.nodup_nil, List.mem_cons, List.not_mem_nil, List.mem_singleton, List.forall_mem_cons, not_or, not_false_eq_true, and_true, true_and, or_false, false_or, forall_eq_or_imp, forall_eq, implies_true, Nat.zero_add, Nat.reduceAdd, and_assoc, factsP_all, ptb_all, upd_all, Nat.mul_one, hdCells] at cs
                    have v1 := PT.out _ _ hSw (by simp [Tk.sel])
                    try simp only [cellsQ, roomP, and_assoc, and_true, true_and, Nat.add_zero, Nat.zero_add, Nat.reduceAdd, factsP, cellsP, roomP, foots_cons, foots_nil, foots_append, foot_pt, ptb, ptb_mapA, foot_mapA, factsP_mapA, foot_bun, List.append_nil, List.nil_append, List.cons_append, List.nodup_cons, List.nodup_nil, List.mem_cons, List.not_mem_nil, List.mem_singleton, List.forall_mem_cons, not_or, not_false_eq_true, and_true, true_and, or_false, false_or, forall_eq_or_imp, forall_eq, implies_true, Nat.zero_add, Nat.reduceAdd, and_assoc, factsP_all, ptb_all, upd_all, Nat.mul_one, hdCells] at v1
                    have v2 := (listA_at hdLen (hSw.hold (hdA (some ⟨g, 0, none⟩) lc wd.l) (by simp [Tk.sel])) HJE.out)
                    try simp only [cellsQ, roomP, and_assoc, and_true, true_and, Nat.add_zero, Nat.zero_add, Nat.reduceAdd, factsP, cellsP, roomP, foots_cons, foots_nil, foots_append, foot_pt, ptb, ptb_mapA, foot_mapA, factsP_mapA, foot_bun, List.append_nil, List.nil_append, List.cons_append, List.nodup_cons, List.nodup_nil, List.mem_cons, List.not_mem_nil, List.mem_singleton, List.forall_mem_cons, not_or, not_false_eq_true, and_true, true_and, or_false, false_or, forall_eq_or_imp, forall_eq, implies_true, Nat.zero_add, Nat.reduceAdd, and_assoc, factsP_all, ptb_all, upd_all, Nat.mul_one, hdCells] at v2
                    (go_simp) <;> (with_reducible rfl)
                  case' r3_6 =>
                    try simp only [Act.put, List.setIfInBounds_toArray, List.set_cons_zero, List.set_cons_succ]
                  refine takeH (i := 6) (v := ?v3_7) rfl (by kernel_rfl) (by kernel_rfl) (by kernel_rfl) (fun _ _ _ h => h) (by rfl) ?y3_7 (O.sel [true, true, false, false, true]) ?r3_7
                  case y3_7 =>
                    intro WW hSw
                    (go_simp) <;> (with_reducible rfl)
                  case' r3_7 =>
                    try simp only [Act.put, List.setIfInBounds_toArray, List.set_cons_zero, List.set_cons_succ]
                  refine takeH (i := 7) (v := ?v3_8) rfl (by kernel_rfl) (by kernel_rfl) (by kernel_rfl) (fun _ _ _ h => h) (by rfl) ?y3_8 (O.sel [true, true, false, false, true]) ?r3_8
                  case y3_8 =>
                    intro WW hSw
                    (go_simp) <;> (with_reducible rfl)
                  case' r3_8 =>
                    try simp only [Act.put, List.setIfInBounds_toArray, List.set_cons_zero, List.set_cons_succ]
                  refine takeH (i := 8) (v := ?v3_9) rfl (by kernel_rfl) (by kernel_rfl) (by kernel_rfl) (fun _ _ _ h => h) (by rfl) ?y3_9 (O.sel [true, true, false, false, true]) ?r3_9
                  case y3_9 =>
                    intro WW hSw
                    (go_simp) <;> (with_reducible rfl)
                  case' r3_9 =>
                    try simp only [Act.put, List.setIfInBounds_toArray, List.set_cons_zero, List.set_cons_succ]
                  refine takeH (i := 9) (v := ?v3_10) rfl (by kernel_rfl) (by kernel_rfl) (by kernel_rfl) (fun _ _ _ h => h) (by rfl) ?y3_10 (O.sel [true, true, false, false, true]) ?r3_10
                  case y3_10 =>
                    intro WW hSw
                    replace hSw : Mem _ _ WW _ := hSw
                    have cs := hSw.facts
                    simp only [sel, factsP, cellsP, roomP, foots_cons, foots_nil, foots_append, foot_pt, ptb, ptb_mapA, foot_mapA, factsP_mapA, foot_bun, List.append_nil, List.nil_append, List.cons_append, List.nodup_cons, List.nodup_nil, List.mem_cons, List.not_mem_nil, List.mem_singleton, List.forall_mem_cons, not_or, not_false_eq_true, and_true, true_and, or_false, false_or, forall_eq_or_imp, forall_eq, implies_true, Nat.zero_add, Nat.reduceAdd, and_assoc, factsP_all, ptb_all, upd_all, Nat.mul_one, hdCells] at cs
                    have v1 := PT.out _ _ hSw (by simp [Tk.sel])
                    try simp only [cellsQ, roomP, and_assoc, and_true, true_and, Nat.add_zero, Nat.zero_add, Nat.reduceAdd, factsP, cellsP, roomP, foots_cons, foots_nil, foots_append, foot_pt, ptb, ptb_mapA, foot_mapA, factsP_mapA, foot_bun, List.append_nil, List.nil_append, List.cons_append, List.nodup_cons, List.nodup_nil, List.mem_cons, List.not_mem_nil, List.mem_singleton, List.forall_mem_cons, not_or, not_false_eq_true, and_true, true_and, or_false, false_or, forall_eq_or_imp, forall_eq, implies_true, Nat.zero_add, Nat.reduceAdd, and_assoc, factsP_all, ptb_all, upd_all, Nat.mul_one, hdCells] at v1
                    have v2 := (listA_at hdLen (hSw.hold (hdA (some ⟨g, 0, none⟩) lc wd.l) (by simp [Tk.sel])) HJE.out)
                    try simp only [cellsQ, roomP, and_assoc, and_true, true_and, Nat.add_zero, Nat.zero_add, Nat.reduceAdd, factsP, cellsP, roomP, foots_cons, foots_nil, foots_append, foot_pt, ptb, ptb_mapA, foot_mapA, factsP_mapA, foot_bun, List.append_nil, List.nil_append, List.cons_append, List.nodup_cons, List.nodup_nil, List.mem_cons, List.not_mem_nil, List.mem_singleton, List.forall_mem_cons, not_or, not_false_eq_true, and_true, true_and, or_false, false_or, forall_eq_or_imp, forall_eq, implies_true, Nat.zero_add, Nat.reduceAdd, and_assoc, factsP_all, ptb_all, upd_all, Nat.mul_one, hdCells] at v2
                    (go_simp) <;> (with_reducible rfl)
                  case' r3_10 =>
                    try simp only [Act.put, List.setIfInBounds_toArray, List.set_cons_zero, List.set_cons_succ]
                  refine takeH (i := 10) (v := ?v3_11) rfl (by kernel_rfl) (by kernel_rfl) (by kernel_rfl) (fun _ _ _ h => h) (by rfl) ?y3_11 (O.sel [true, true, false, false, true]) ?r3_11
                  case y3_11 =>
                    intro WW hSw
                    replace hSw : Mem _ _ WW _ := hSw
                    have cs := hSw.facts
                    simp only [sel, factsP, cellsP, roomP, foots_cons, foots_nil, foots_append, foot_pt, ptb, ptb_mapA, foot_mapA, factsP_mapA, foot_bun, List.append_nil, List.nil_append, List.cons_append, List.nodup_cons, List.nodup_nil, List.mem_cons, List.not_mem_nil, List.mem_singleton, List.forall_mem_cons, not_or, not_false_eq_true, and_true, true_and, or_false, false_or, forall_eq_or_imp, forall_eq, implies_true, Nat.zero_add, Nat.reduceAdd, and_assoc, factsP_all, ptb_all, upd_all, Nat.mul_one, hdCells] at cs
                    have v1 := PT.out _ _ hSw (by simp [Tk.sel])
                    try simp only [cellsQ, roomP, and_assoc, and_true, true_and, Nat.add_zero, Nat.zero_add, Nat.reduceAdd, factsP, cellsP, roomP, foots_cons, foots_nil, foots_append, foot_pt, ptb, ptb_mapA, foot_mapA, factsP_mapA, foot_bun, List.append_nil, List.nil_append, List.cons_append, List.nodup_cons, List.nodup_nil, List.mem_cons, List.not_mem_nil, List.mem_singleton, List.forall_mem_cons, not_or, not_false_eq_true, and_true, true_and, or_false, false_or, forall_eq_or_imp, forall_eq, implies_true, Nat.zero_add, Nat.reduceAdd, and_assoc, factsP_all, ptb_all, upd_all, Nat.mul_one, hdCells] at v1
                    have v2 := (listA_at hdLen (hSw.hold (hdA (some ⟨g, 0, none⟩) lc wd.l) (by simp [Tk.sel])) HJE.out)
                    try simp only [cellsQ, roomP, and_assoc, and_true, true_and, Nat.add_zero, Nat.zero_add, Nat.reduceAdd, factsP, cellsP, roomP, foots_cons, foots_nil, foots_append, foot_pt, ptb, ptb_mapA, foot_mapA, factsP_mapA, foot_bun, List.append_nil, List.nil_append, List.cons_append, List.nodup_cons, List.nodup_nil, List.mem_cons, List.not_mem_nil, List.mem_singleton, List.forall_mem_cons, not_or, not_false_eq_true, and_true, true_and, or_false, false_or, forall_eq_or_imp, forall_eq, implies_true, Nat.zero_add, Nat.reduceAdd, and_assoc, factsP_all, ptb_all, upd_all, Nat.mul_one, hdCells] at v2
                    (go_simp) <;> (with_reducible rfl)
                  case' r3_11 =>
                    try simp only [Act.put, List.setIfInBounds_toArray, List.set_cons_zero, List.set_cons_succ]
                  apply cutT1
                  case main =>
                    intro hT3_0
                    refine wpAnyH_ready (rs := [11, 14]) (by kernel_rfl) (by simp) ?_
                    refine consH rfl (fun K hK => ?_) ?_
                    · have cs := O.facts
                      simp only [factsP, cellsP, roomP, foots_cons, foots_nil, foots_append, foot_pt, ptb, ptb_mapA, foot_mapA, factsP_mapA, foot_bun, List.append_nil, List.nil_append, List.cons_append, List.nodup_cons, List.nodup_nil, List.mem_cons, List.not_mem_nil, List.mem_singleton, List.forall_mem_cons, not_or, not_false_eq_true, and_true, true_and, or_false, false_or, forall_eq_or_imp, forall_eq, implies_true, Nat.zero_add, Nat.reduceAdd, and_assoc, factsP_all, ptb_all, upd_all, Nat.mul_one, hdCells] at cs
                      have v1 := PT.out _ _ O (by simp [Tk.sel])
                      try simp only [cellsQ, roomP, and_assoc, and_true, true_and, Nat.add_zero, Nat.zero_add, Nat.reduceAdd, factsP, cellsP, roomP, foots_cons, foots_nil, foots_append, foot_pt, ptb, ptb_mapA, foot_mapA, factsP_mapA, foot_bun, List.append_nil, List.nil_append, List.cons_append, List.nodup_cons, List.nodup_nil, List.mem_cons, List.not_mem_nil, List.mem_singleton, List.forall_mem_cons, not_or, not_false_eq_true, and_true, true_and, or_false, false_or, forall_eq_or_imp, forall_eq, implies_true, Nat.zero_add, Nat.reduceAdd, and_assoc, factsP_all, ptb_all, upd_all, Nat.mul_one, hdCells] at v1
                      have v2 := (listA_at hdLen (O.hold (hdA (some ⟨g, 0, none⟩) lc wd.l) (by simp [Tk.sel])) HJE.out)
                      try simp only [cellsQ, roomP, and_assoc, and_true, true_and, Nat.add_zero, Nat.zero_add, Nat.reduceAdd, factsP, cellsP, roomP, foots_cons, foots_nil, foots_append, foot_pt, ptb, ptb_mapA, foot_mapA, factsP_mapA, foot_bun, List.append_nil, List.nil_append, List.cons_append, List.nodup_cons, List.nodup_nil, List.mem_cons, List.not_mem_nil, List.mem_singleton, List.forall_mem_cons, not_or, not_false_eq_true, and_true, true_and, or_false, false_or, forall_eq_or_imp, forall_eq, implies_true, Nat.zero_add, Nat.reduceAdd, and_assoc, factsP_all, ptb_all, upd_all, Nat.mul_one, hdCells] at v2
                      go_simp
                      apply Mem.atCall
                      case h => repeat' (first | (with_reducible exact O) | (with_reducible apply Mem.drew) | (with_reducible apply Mem.drewN) | (with_reducible apply Mem.ext) | (with_reducible apply Mem.alloc) | (with_reducible apply Mem.setCell) | (simp only [ptb, ptb_upd, foots_cons, List.mem_cons, World.size_alloc, size_ext, World.size_setCell, true_or, or_true, eq_self_iff_true, ptb_all]))
                      intro w3_12 O'
                      (try clear O)
                      have O := O'
                      clear O'
                      (first | simp only [sel, rst, List.cons_append, List.nil_append, World.size_alloc, size_ext, World.size_setCell, size_setMap, World.size_drew, size_drewN, upd, List.set_cons_zero, List.set_cons_succ, if_true, if_false, reduceIte, not_false_eq_true, ne_lt0, ne_lt1, ne_lt2, ne_lt3, ne_lt4, upd_all, cs] at O | simp only [sel, rst, List.cons_append, List.nil_append, World.size_alloc, size_ext, World.size_setCell, size_setMap, World.size_drew, size_drewN, upd, List.set_cons_zero, List.set_cons_succ, if_true, if_false, reduceIte, not_false_eq_true, ne_lt0, ne_lt1, ne_lt2, ne_lt3, ne_lt4, upd_all] at O | skip)
                      (try clear cs)
                      (try clear v1)
                      (try clear v2)
                      (try clear v3)
                      refine (CPN.out _).mono ?_
                      rintro e w3_12' ⟨rfl, o⟩
                      replace O := O.callp [] o
                      clear o
                      simp only [put, List.cons_append, List.nil_append] at O
                      go_wp2_with fail
                      refine hK.out _ _ (O.sel [true, true, false, false, true]) (fun _ => ?_)
                      clear hK K
                      refine takeH (i := 12) (v := ?v3_13) rfl (by kernel_rfl) (by kernel_rfl) (by kernel_rfl) (fun _ _ _ h => h) (by rfl) ?y3_13 (O.sel [true, true, false, false, true]) ?r3_13
                      case y3_13 =>
                        intro WW hSw
                        replace hSw : Mem _ _ WW _ := hSw
                        have cs := hSw.facts
                        simp only [sel, factsP, cellsP, roomP, foots_cons, foots_nil, foots_append, foot_pt, ptb, ptb_mapA, foot_mapA, factsP_mapA, foot_bun, List.append_nil, List.nil_append, List.cons_append, List.nodup_cons, List.nodup_nil, List.mem_cons, List.not_mem_nil, List.mem_singleton, List.forall_mem_cons, not_or, not_false_eq_true, and_true, true_and, or_false, false_or, forall_eq_or_imp, forall_eq, implies_true, Nat.zero_add, Nat.reduceAdd, and_assoc, factsP_all, ptb_all, upd_all, Nat.mul_one, hdCells] at cs
                        have v1 := PT.out _ _ hSw (by simp [Tk.sel])
                        try simp only [cellsQ, roomP, and_assoc, and_true, true_and, Nat.add_zero, Nat.zero_add, Nat.reduceAdd, factsP, cellsP, roomP, foots_cons, foots_nil, foots_append, foot_pt, ptb, ptb_mapA, foot_mapA, factsP_mapA, foot_bun, List.append_nil, List.nil_append, List.cons_append, List.nodup_cons, List.nodup_nil, List.mem_cons, List.not_mem_nil, List.mem_singleton, List.forall_mem_cons, not_or, not_false_eq_true, and_true, true_and, or_false, false_or, forall_eq_or_imp, forall_eq, implies_true, Nat.zero_add, Nat.reduceAdd, and_assoc, factsP_all, ptb_all, upd_all, Nat.mul_one, hdCells] at v1
                        have v2 := (listA_at hdLen (hSw.hold (hdA (some ⟨g, 0, none⟩) lc wd.l) (by simp [Tk.sel])) HJE.out)
                        try simp only [cellsQ, roomP, and_assoc, and_true, true_and, Nat.add_zero, Nat.zero_add, Nat.reduceAdd, factsP, cellsP, roomP, foots_cons, foots_nil, foots_append, foot_pt, ptb, ptb_mapA, foot_mapA, factsP_mapA, foot_bun, List.append_nil, List.nil_append, List.cons_append, List.nodup_cons, List.nodup_nil, List.mem_cons, List.not_mem_nil, List.mem_singleton, List.forall_mem_cons, not_or, not_false_eq_true, and_true, true_and, or_false, false_or, forall_eq_or_imp, forall_eq, implies_true, Nat.zero_add, Nat.reduceAdd, and_assoc, factsP_all, ptb_all, upd_all, Nat.mul_one, hdCells] at v2
                        (go_simp) <;> (with_reducible rfl)
                      case' r3_13 =>
                        try simp only [Act.put, List.setIfInBounds_toArray, List.set_cons_zero, List.set_cons_succ]
                      refine takeH (i := 13) (v := ?v3_14) rfl (by kernel_rfl) (by kernel_rfl) (by kernel_rfl) (fun _ _ _ h => h) (by rfl) ?y3_14 (O.sel [true, true, false, false, true]) ?r3_14
                      case y3_14 =>
                        intro WW hSw
                        replace hSw : Mem _ _ WW _ := hSw
                        have cs := hSw.facts
                        simp only [sel, factsP, cellsP, roomP, foots_cons, foots_nil, foots_append, foot_pt, ptb, ptb_mapA, foot_mapA, factsP_mapA, foot_bun, List.append_nil, List.nil_append, List.cons_append, List.nodup_cons, List.nodup_nil, List.mem_cons, List.not_mem_nil, List.mem_singleton, List.forall_mem_cons, not_or, not_false_eq_true, and_true, true_and, or_false, false_or, forall_eq_or_imp, forall_eq, implies_true, Nat.zero_add, Nat.reduceAdd, and_assoc, factsP_all, ptb_all, upd_all, Nat.mul_one, hdCells] at cs
                        have v1 := PT.out _ _ hSw (by simp [Tk.sel])
                        try simp only [cellsQ, roomP, and_assoc, and_true, true_and, Nat.add_zero, Nat.zero_add, Nat.reduceAdd, factsP, cellsP, roomP, foots_cons, foots_nil, foots_append, foot_pt, ptb, ptb_mapA, foot_mapA, factsP_mapA, foot_bun, List.append_nil, List.nil_append, List.cons_append, List.nodup_cons, List.nodup_nil, List.mem_cons, List.not_mem_nil, List.mem_singleton, List.forall_mem_cons, not_or, not_false_eq_true, and_true, true_and, or_false, false_or, forall_eq_or_imp, forall_eq, implies_true, Nat.zero_add, Nat.reduceAdd, and_assoc, factsP_all, ptb_all, upd_all, Nat.mul_one, hdCells] at v1
                        have v2 := (listA_at hdLen (hSw.hold (hdA (some ⟨g, 0, none⟩) lc wd.l) (by simp [Tk.sel])) HJE.out)
                        try simp only [cellsQ, roomP, and_assoc, and_true, true_and, Nat.add_zero, Nat.zero_add, Nat.reduceAdd, factsP, cellsP, roomP, foots_cons, foots_nil, foots_append, foot_pt, ptb, ptb_mapA, foot_mapA, factsP_mapA, foot_bun, List.append_nil, List.nil_append, List.cons_append, List.nodup_cons, List.nodup_nil, List.mem_cons, List.not_mem_nil, List.mem_singleton, List.forall_mem_cons, not_or, not_false_eq_true, and_true, true_and, or_false, false_or, forall_eq_or_imp, forall_eq, implies_true, Nat.zero_add, Nat.reduceAdd, and_assoc, factsP_all, ptb_all, upd_all, Nat.mul_one, hdCells] at v2
                        (go_simp) <;> (with_reducible rfl)
                      case' r3_14 =>
                        try simp only [Act.put, List.setIfInBounds_toArray, List.set_cons_zero, List.set_cons_succ]
                      refine wpAnyH_ready (rs := [14]) (by kernel_rfl) (by simp) ?_
                      refine consH rfl (fun K hK => ?_) AllReadyH.nil
                      have cs := O.facts
                      simp only [factsP, cellsP, roomP, foots_cons, foots_nil, foots_append, foot_pt, ptb, ptb_mapA, foot_mapA, factsP_mapA, foot_bun, List.append_nil, List.nil_append, List.cons_append, List.nodup_cons, List.nodup_nil, List.mem_cons, List.not_mem_nil, List.mem_singleton, List.forall_mem_cons, not_or, not_false_eq_true, and_true, true_and, or_false, false_or, forall_eq_or_imp, forall_eq, implies_true, Nat.zero_add, Nat.reduceAdd, and_assoc, factsP_all, ptb_all, upd_all, Nat.mul_one, hdCells] at cs
                      have v1 := PT.out _ _ O (by simp [Tk.sel])
                      try simp only [cellsQ, roomP, and_assoc, and_true, true_and, Nat.add_zero, Nat.zero_add, Nat.reduceAdd, factsP, cellsP, roomP, foots_cons, foots_nil, foots_append, foot_pt, ptb, ptb_mapA, foot_mapA, factsP_mapA, foot_bun, List.append_nil, List.nil_append, List.cons_append, List.nodup_cons, List.nodup_nil, List.mem_cons, List.not_mem_nil, List.mem_singleton, List.forall_mem_cons, not_or, not_false_eq_true, and_true, true_and, or_false, false_or, forall_eq_or_imp, forall_eq, implies_true, Nat.zero_add, Nat.reduceAdd, and_assoc, factsP_all, ptb_all, upd_all, Nat.mul_one, hdCells] at v1
                      have v2 := (listA_at hdLen (O.hold (hdA (some ⟨g, 0, none⟩) lc wd.l) (by simp [Tk.sel])) HJE.out)
                      try simp only [cellsQ, roomP, and_assoc, and_true, true_and, Nat.add_zero, Nat.zero_add, Nat.reduceAdd, factsP, cellsP, roomP, foots_cons, foots_nil, foots_append, foot_pt, ptb, ptb_mapA, foot_mapA, factsP_mapA, foot_bun, List.append_nil, List.nil_append, List.cons_append, List.nodup_cons, List.nodup_nil, List.mem_cons, List.not_mem_nil, List.mem_singleton, List.forall_mem_cons, not_or, not_false_eq_true, and_true, true_and, or_false, false_or, forall_eq_or_imp, forall_eq, implies_true, Nat.zero_add, Nat.reduceAdd, and_assoc, factsP_all, ptb_all, upd_all, Nat.mul_one, hdCells] at v2
                      go_simp
                      apply Mem.atK
                      case h => repeat' (first | (with_reducible exact O) | (with_reducible apply Mem.drew) | (with_reducible apply Mem.drewN) | (with_reducible apply Mem.ext) | (with_reducible apply Mem.alloc) | (with_reducible apply Mem.setCell) | (simp only [ptb, ptb_upd, foots_cons, List.mem_cons, World.size_alloc, size_ext, World.size_setCell, true_or, or_true, eq_self_iff_true, ptb_all]))
                      intro w3_15 O'
                      (try clear O)
                      have O := O'
                      clear O'
                      (first | simp only [sel, rst, List.cons_append, List.nil_append, World.size_alloc, size_ext, World.size_setCell, size_setMap, World.size_drew, size_drewN, upd, List.set_cons_zero, List.set_cons_succ, if_true, if_false, reduceIte, not_false_eq_true, ne_lt0, ne_lt1, ne_lt2, ne_lt3, ne_lt4, upd_all, cs] at O | simp only [sel, rst, List.cons_append, List.nil_append, World.size_alloc, size_ext, World.size_setCell, size_setMap, World.size_drew, size_drewN, upd, List.set_cons_zero, List.set_cons_succ, if_true, if_false, reduceIte, not_false_eq_true, ne_lt0, ne_lt1, ne_lt2, ne_lt3, ne_lt4, upd_all] at O | skip)
                      (try clear cs)
                      (try clear v1)
                      (try clear v2)
                      (try clear v3)
                      generalize w3_12'.heap.size = p3_16 at O ⊢
                      refine hK.out _ _ (O.sel [false, true, true, false, false, true]) (fun _ => ?_)
                      clear hK K
                      revert O
                      exact hT3_0.out p3_16 w3_15
                    refine consH rfl (fun K hK => ?_) ?_
                    · have cs := O.facts
                      simp only [factsP, cellsP, roomP, foots_cons, foots_nil, foots_append, foot_pt, ptb, ptb_mapA, foot_mapA, factsP_mapA, foot_bun, List.append_nil, List.nil_append, List.cons_append, List.nodup_cons, List.nodup_nil, List.mem_cons, List.not_mem_nil, List.mem_singleton, List.forall_mem_cons, not_or, not_false_eq_true, and_true, true_and, or_false, false_or, forall_eq_or_imp, forall_eq, implies_true, Nat.zero_add, Nat.reduceAdd, and_assoc, factsP_all, ptb_all, upd_all, Nat.mul_one, hdCells] at cs
                      have v1 := PT.out _ _ O (by simp [Tk.sel])
                      try simp only [cellsQ, roomP, and_assoc, and_true, true_and, Nat.add_zero, Nat.zero_add, Nat.reduceAdd, factsP, cellsP, roomP, foots_cons, foots_nil, foots_append, foot_pt, ptb, ptb_mapA, foot_mapA, factsP_mapA, foot_bun, List.append_nil, List.nil_append, List.cons_append, List.nodup_cons, List.nodup_nil, List.mem_cons, List.not_mem_nil, List.mem_singleton, List.forall_mem_cons, not_or, not_false_eq_true, and_true, true_and, or_false, false_or, forall_eq_or_imp, forall_eq, implies_true, Nat.zero_add, Nat.reduceAdd, and_assoc, factsP_all, ptb_all, upd_all, Nat.mul_one, hdCells] at v1
                      have v2 := (listA_at hdLen (O.hold (hdA (some ⟨g, 0, none⟩) lc wd.l) (by simp [Tk.sel])) HJE.out)
                      try simp only [cellsQ, roomP, and_assoc, and_true, true_and, Nat.add_zero, Nat.zero_add, Nat.reduceAdd, factsP, cellsP, roomP, foots_cons, foots_nil, foots_append, foot_pt, ptb, ptb_mapA, foot_mapA, factsP_mapA, foot_bun, List.append_nil, List.nil_append, List.cons_append, List.nodup_cons, List.nodup_nil, List.mem_cons, List.not_mem_nil, List.mem_singleton, List.forall_mem_cons, not_or, not_false_eq_true, and_true, true_and, or_false, false_or, forall_eq_or_imp, forall_eq, implies_true, Nat.zero_add, Nat.reduceAdd, and_assoc, factsP_all, ptb_all, upd_all, Nat.mul_one, hdCells] at v2
                      go_simp
                      apply Mem.atK
                      case h => repeat' (first | (with_reducible exact O) | (with_reducible apply Mem.drew) | (with_reducible apply Mem.drewN) | (with_reducible apply Mem.ext) | (with_reducible apply Mem.alloc) | (with_reducible apply Mem.setCell) | (simp only [ptb, ptb_upd, foots_cons, List.mem_cons, World.size_alloc, size_ext, World.size_setCell, true_or, or_true, eq_self_iff_true, ptb_all]))
                      intro w3_17 O'
                      (try clear O)
                      have O := O'
                      clear O'
                      (first | simp only [sel, rst, List.cons_append, List.nil_append, World.size_alloc, size_ext, World.size_setCell, size_setMap, World.size_drew, size_drewN, upd, List.set_cons_zero, List.set_cons_succ, if_true, if_false, reduceIte, not_false_eq_true, ne_lt0, ne_lt1, ne_lt2, ne_lt3, ne_lt4, upd_all, cs] at O | simp only [sel, rst, List.cons_append, List.nil_append, World.size_alloc, size_ext, World.size_setCell, size_setMap, World.size_drew, size_drewN, upd, List.set_cons_zero, List.set_cons_succ, if_true, if_false, reduceIte, not_false_eq_true, ne_lt0, ne_lt1, ne_lt2, ne_lt3, ne_lt4, upd_all] at O | skip)
                      (try clear cs)
                      (try clear v1)
                      (try clear v2)
                      (try clear v3)
                      generalize wr3.heap.size = p3_18 at O ⊢
                      refine hK.out _ _ (O.sel [false, true, true, false, false, true]) (fun _ => ?_)
                      clear hK K
                      refine wpAnyH_ready (rs := [11]) (by kernel_rfl) (by simp) ?_
                      refine consH rfl (fun K hK => ?_) AllReadyH.nil
                      have cs := O.facts
                      simp only [factsP, cellsP, roomP, foots_cons, foots_nil, foots_append, foot_pt, ptb, ptb_mapA, foot_mapA, factsP_mapA, foot_bun, List.append_nil, List.nil_append, List.cons_append, List.nodup_cons, List.nodup_nil, List.mem_cons, List.not_mem_nil, List.mem_singleton, List.forall_mem_cons, not_or, not_false_eq_true, and_true, true_and, or_false, false_or, forall_eq_or_imp, forall_eq, implies_true, Nat.zero_add, Nat.reduceAdd, and_assoc, factsP_all, ptb_all, upd_all, Nat.mul_one, hdCells] at cs
                      have v1 := PT.out _ _ O (by simp [Tk.sel])
                      try simp only [cellsQ, roomP, and_assoc, and_true, true_and, Nat.add_zero, Nat.zero_add, Nat.reduceAdd, factsP, cellsP, roomP, foots_cons, foots_nil, foots_append, foot_pt, ptb, ptb_mapA, foot_mapA, factsP_mapA, foot_bun, List.append_nil, List.nil_append, List.cons_append, List.nodup_cons, List.nodup_nil, List.mem_cons, List.not_mem_nil, List.mem_singleton, List.forall_mem_cons, not_or, not_false_eq_true, and_true, true_and, or_false, false_or, forall_eq_or_imp, forall_eq, implies_true, Nat.zero_add, Nat.reduceAdd, and_assoc, factsP_all, ptb_all, upd_all, Nat.mul_one, hdCells] at v1
                      have v2 := (listA_at hdLen (O.hold (hdA (some ⟨g, 0, none⟩) lc wd.l) (by simp [Tk.sel])) HJE.out)
                      try simp only [cellsQ, roomP, and_assoc, and_true, true_and, Nat.add_zero, Nat.zero_add, Nat.reduceAdd, factsP, cellsP, roomP, foots_cons, foots_nil, foots_append, foot_pt, ptb, ptb_mapA, foot_mapA, factsP_mapA, foot_bun, List.append_nil, List.nil_append, List.cons_append, List.nodup_cons, List.nodup_nil, List.mem_cons, List.not_mem_nil, List.mem_singleton, List.forall_mem_cons, not_or, not_false_eq_true, and_true, true_and, or_false, false_or, forall_eq_or_imp, forall_eq, implies_true, Nat.zero_add, Nat.reduceAdd, and_assoc, factsP_all, ptb_all, upd_all, Nat.mul_one, hdCells] at v2
                      go_simp
                      apply Mem.atCall
                      case h => repeat' (first | (with_reducible exact O) | (with_reducible apply Mem.drew) | (with_reducible apply Mem.drewN) | (with_reducible apply Mem.ext) | (with_reducible apply Mem.alloc) | (with_reducible apply Mem.setCell) | (simp only [ptb, ptb_upd, foots_cons, List.mem_cons, World.size_alloc, size_ext, World.size_setCell, true_or, or_true, eq_self_iff_true, ptb_all]))
                      intro w3_19 O'
                      (try clear O)
                      have O := O'
                      clear O'
                      (first | simp only [sel, rst, List.cons_append, List.nil_append, World.size_alloc, size_ext, World.size_setCell, size_setMap, World.size_drew, size_drewN, upd, List.set_cons_zero, List.set_cons_succ, if_true, if_false, reduceIte, not_false_eq_true, ne_lt0, ne_lt1, ne_lt2, ne_lt3, ne_lt4, upd_all, cs] at O | simp only [sel, rst, List.cons_append, List.nil_append, World.size_alloc, size_ext, World.size_setCell, size_setMap, World.size_drew, size_drewN, upd, List.set_cons_zero, List.set_cons_succ, if_true, if_false, reduceIte, not_false_eq_true, ne_lt0, ne_lt1, ne_lt2, ne_lt3, ne_lt4, upd_all] at O | skip)
                      (try clear cs)
                      (try clear v1)
                      (try clear v2)
                      (try clear v3)
                      refine (CPN.out _).mono ?_
                      rintro e w3_19' ⟨rfl, o⟩
                      replace O := O.callp [false] o
                      clear o
                      simp only [put, List.cons_append, List.nil_append] at O
                      go_wp2_with fail
                      refine hK.out _ _ (O.sel [false, true, true, false, false, true]) (fun _ => ?_)
                      clear hK K
                      refine takeH (i := 12) (v := ?v3_20) rfl (by kernel_rfl) (by kernel_rfl) (by kernel_rfl) (fun _ _ _ h => h) (by rfl) ?y3_20 (O.sel [false, true, true, false, false, true]) ?r3_20
                      case y3_20 =>
                        intro WW hSw
                        replace hSw : Mem _ _ WW _ := hSw
                        have cs := hSw.facts
                        simp only [sel, factsP, cellsP, roomP, foots_cons, foots_nil, foots_append, foot_pt, ptb, ptb_mapA, foot_mapA, factsP_mapA, foot_bun, List.append_nil, List.nil_append, List.cons_append, List.nodup_cons, List.nodup_nil, List.mem_cons, List.not_mem_nil, List.mem_singleton, List.forall_mem_cons, not_or, not_false_eq_true, and_true, true_and, or_false, false_or, forall_eq_or_imp, forall_eq, implies_true, Nat.zero_add, Nat.reduceAdd, and_assoc, factsP_all, ptb_all, upd_all, Nat.mul_one, hdCells] at cs
                        have v1 := PT.out _ _ hSw (by simp [Tk.sel])
                        try simp only [cellsQ, roomP, and_assoc, and_true, true_and, Nat.add_zero, Nat.zero_add, Nat.reduceAdd, factsP, cellsP, roomP, foots_cons, foots_nil, foots_append, foot_pt, ptb, ptb_mapA, foot_mapA, factsP_mapA, foot_bun, List.append_nil, List.nil_append, List.cons_append, List.nodup_cons, List.nodup_nil, List.mem_cons, List.not_mem_nil, List.mem_singleton, List.forall_mem_cons, not_or, not_false_eq_true, and_true, true_and, or_false, false_or, forall_eq_or_imp, forall_eq, implies_true, Nat.zero_add, Nat.reduceAdd, and_assoc, factsP_all, ptb_all, upd_all, Nat.mul_one, hdCells] at v1
                        have v2 := (listA_at hdLen (hSw.hold (hdA (some ⟨g, 0, none⟩) lc wd.l) (by simp [Tk.sel])) HJE.out)
                        try simp only [cellsQ, roomP, and_assoc, and_true, true_and, Nat.add_zero, Nat.zero_add, Nat.reduceAdd, factsP, cellsP, roomP, foots_cons, foots_nil, foots_append, foot_pt, ptb, ptb_mapA, foot_mapA, factsP_mapA, foot_bun, List.append_nil, List.nil_append, List.cons_append, List.nodup_cons, List.nodup_nil, List.mem_cons, List.not_mem_nil, List.mem_singleton, List.forall_mem_cons, not_or, not_false_eq_true, and_true, true_and, or_false, false_or, forall_eq_or_imp, forall_eq, implies_true, Nat.zero_add, Nat.reduceAdd, and_assoc, factsP_all, ptb_all, upd_all, Nat.mul_one, hdCells] at v2
                        (go_simp) <;> (with_reducible rfl)
                      case' r3_20 =>
                        try simp only [Act.put, List.setIfInBounds_toArray, List.set_cons_zero, List.set_cons_succ]
                      refine takeH (i := 13) (v := ?v3_21) rfl (by kernel_rfl) (by kernel_rfl) (by kernel_rfl) (fun _ _ _ h => h) (by rfl) ?y3_21 (O.sel [false, true, true, false, false, true]) ?r3_21
                      case y3_21 =>
                        intro WW hSw
                        replace hSw : Mem _ _ WW _ := hSw
                        have cs := hSw.facts
                        simp only [sel, factsP, cellsP, roomP, foots_cons, foots_nil, foots_append, foot_pt, ptb, ptb_mapA, foot_mapA, factsP_mapA, foot_bun, List.append_nil, List.nil_append, List.cons_append, List.nodup_cons, List.nodup_nil, List.mem_cons, List.not_mem_nil, List.mem_singleton, List.forall_mem_cons, not_or, not_false_eq_true, and_true, true_and, or_false, false_or, forall_eq_or_imp, forall_eq, implies_true, Nat.zero_add, Nat.reduceAdd, and_assoc, factsP_all, ptb_all, upd_all, Nat.mul_one, hdCells] at cs
                        have v1 := PT.out _ _ hSw (by simp [Tk.sel])
                        try simp only [cellsQ, roomP, and_assoc, and_true, true_and, Nat.add_zero, Nat.zero_add, Nat.reduceAdd, factsP, cellsP, roomP, foots_cons, foots_nil, foots_append, foot_pt, ptb, ptb_mapA, foot_mapA, factsP_mapA, foot_bun, List.append_nil, List.nil_append, List.cons_append, List.nodup_cons, List.nodup_nil, List.mem_cons, List.not_mem_nil, List.mem_singleton, List.forall_mem_cons, not_or, not_false_eq_true, and_true, true_and, or_false, false_or, forall_eq_or_imp, forall_eq, implies_true, Nat.zero_add, Nat.reduceAdd, and_assoc, factsP_all, ptb_all, upd_all, Nat.mul_one, hdCells] at v1
                        have v2 := (listA_at hdLen (hSw.hold (hdA (some ⟨g, 0, none⟩) lc wd.l) (by simp [Tk.sel])) HJE.out)
                        try simp only [cellsQ, roomP, and_assoc, and_true, true_and, Nat.add_zero, Nat.zero_add, Nat.reduceAdd, factsP, cellsP, roomP, foots_cons, foots_nil, foots_append, foot_pt, ptb, ptb_mapA, foot_mapA, factsP_mapA, foot_bun, List.append_nil, List.nil_append, List.cons_append, List.nodup_cons, List.nodup_nil, List.mem_cons, List.not_mem_nil, List.mem_singleton, List.forall_mem_cons, not_or, not_false_eq_true, and_true, true_and, or_false, false_or, forall_eq_or_imp, forall_eq, implies_true, Nat.zero_add, Nat.reduceAdd, and_assoc, factsP_all, ptb_all, upd_all, Nat.mul_one, hdCells] at v2
                        (go_simp) <;> (with_reducible rfl)
                      case' r3_21 =>
                        try simp only [Act.put, List.setIfInBounds_toArray, List.set_cons_zero, List.set_cons_succ]
                      revert O
                      exact hT3_0.out p3_18 w3_19'
                    exact AllReadyH.nil
                  case' tail =>
                    intro q3_22 w3_23 O
                  refine wpAnyH_ready (rs := [15]) (by kernel_rfl) (by simp) ?_
                  refine consH rfl (fun K hK => ?_) AllReadyH.nil
                  have cs := O.facts
                  simp only [factsP, cellsP, roomP, foots_cons, foots_nil, foots_append, foot_pt, ptb, ptb_mapA, foot_mapA, factsP_mapA, foot_bun, List.append_nil, List.nil_append, List.cons_append, List.nodup_cons, List.nodup_nil, List.mem_cons, List.not_mem_nil, List.mem_singleton, List.forall_mem_cons, not_or, not_false_eq_true, and_true, true_and, or_false, false_or, forall_eq_or_imp, forall_eq, implies_true, Nat.zero_add, Nat.reduceAdd, and_assoc, factsP_all, ptb_all, upd_all, Nat.mul_one, hdCells] at cs
                  have v1 := PT.out _ _ O (by simp [Tk.sel])
                  try simp only [cellsQ, roomP, and_assoc, and_true, true_and, Nat.add_zero, Nat.zero_add, Nat.reduceAdd, factsP, cellsP, roomP, foots_cons, foots_nil, foots_append, foot_pt, ptb, ptb_mapA, foot_mapA, factsP_mapA, foot_bun, List.append_nil, List.nil_append, List.cons_append, List.nodup_cons, List.nodup_nil, List.mem_cons, List.not_mem_nil, List.mem_singleton, List.forall_mem_cons, not_or, not_false_eq_true, and_true, true_and, or_false, false_or, forall_eq_or_imp, forall_eq, implies_true, Nat.zero_add, Nat.reduceAdd, and_assoc, factsP_all, ptb_all, upd_all, Nat.mul_one, hdCells] at v1
                  have v2 := (listA_at hdLen (O.hold (hdA (some ⟨g, 0, none⟩) lc wd.l) (by simp [Tk.sel])) HJE.out)
                  try simp only [cellsQ, roomP, and_assoc, and_true, true_and, Nat.add_zero, Nat.zero_add, Nat.reduceAdd, factsP, cellsP, roomP, foots_cons, foots_nil, foots_append, foot_pt, ptb, ptb_mapA, foot_mapA, factsP_mapA, foot_bun, List.append_nil, List.nil_append, List.cons_append, List.nodup_cons, List.nodup_nil, List.mem_cons, List.not_mem_nil, List.mem_singleton, List.forall_mem_cons, not_or, not_false_eq_true, and_true, true_and, or_false, false_or, forall_eq_or_imp, forall_eq, implies_true, Nat.zero_add, Nat.reduceAdd, and_assoc, factsP_all, ptb_all, upd_all, Nat.mul_one, hdCells] at v2
                  go_simp
                  apply Mem.atK
                  case h => repeat' (first | (with_reducible exact O) | (with_reducible apply Mem.drew) | (with_reducible apply Mem.drewN) | (with_reducible apply Mem.ext) | (with_reducible apply Mem.alloc) | (with_reducible apply Mem.setCell) | (simp only [ptb, ptb_upd, foots_cons, List.mem_cons, World.size_alloc, size_ext, World.size_setCell, true_or, or_true, eq_self_iff_true, ptb_all]))
                  intro w3_24 O'
                  (try clear O)
                  have O := O'
                  clear O'
                  (first | simp only [sel, rst, List.cons_append, List.nil_append, World.size_alloc, size_ext, World.size_setCell, size_setMap, World.size_drew, size_drewN, upd, List.set_cons_zero, List.set_cons_succ, if_true, if_false, reduceIte, not_false_eq_true, ne_lt0, ne_lt1, ne_lt2, ne_lt3, ne_lt4, upd_all, cs] at O | simp only [sel, rst, List.cons_append, List.nil_append, World.size_alloc, size_ext, World.size_setCell, size_setMap, World.size_drew, size_drewN, upd, List.set_cons_zero, List.set_cons_succ, if_true, if_false, reduceIte, not_false_eq_true, ne_lt0, ne_lt1, ne_lt2, ne_lt3, ne_lt4, upd_all] at O | skip)
                  (try clear cs)
                  (try clear v1)
                  (try clear v2)
                  (try clear v3)
                  refine hK.out _ _ (O.sel [false, true, true, false, false, true]) (fun _ => ?_)
                  clear hK K
                  refine wpAnyH_done (by kernel_rfl) ?_ _
                  clear PT CPN
                  have hm3 : pickN vm 3 < 3 := pickN_lt (by omega)
                  have CPM := Lib.hid (fun W => (q_pick vm 3 hvm (by omega) (by omega) W : Calls Try.prog 11 #[.int .i64 vm, .int .i64 3] W _))
                  generalize pickN vm 3 = m at CPM hm3
                  have hm3i : (m : Int) < 3 := by omega
                  obtain ⟨M, hMk, hMp⟩ := HMn.out.get hm3
                  have c9 := HC.out.man m hm3
                  rw [hMp] at c9
                  have PT := Lib.hid (fun (W : World) (L : List Asn) (O : Mem w [] W L) (hm : Asn.pt xb ws 83 ∈ L) => ptCell O hm c9)
                  have hME := HW.out.mg m M.E (by rw [List.getElem?_map, hMk]; rfl)
                  have CH := Lib.hid (fun W (hW : Pre W [mgF M]) => x_Hear W M _ wd.l hME hW ebk er ek ⟨ebr, ebn⟩ evv hjm hewf)
                  simp only [Ballot.val] at CH
                  have HMK := Lib.hid hMk
                  clear c9 hME hewf hjm hMk hMp
                  replace O := (((((((O).front [false, false, false, false, false, false, true]).front [false, false, false, false, false, false, true]).front [false, false, false, false, false, true]).front [false, false, false, false, false, true]).front [false, false, false, false, false, true]).front [false, false, false, false, false, true]).front [false, false, false, false, false, false, true]
                  simp only [Tk.sel, rst, List.cons_append, List.nil_append] at O
                  replace O := O.sel [true, true, true, true, true, true, true]
                  simp only [Tk.sel] at O
                  replace O := O.famTake HMK.out
                  skip
                  have cs := O.facts
                  try simp only [factsP, cellsP, roomP, foots_cons, foots_nil, foots_append, foot_pt, ptb, ptb_mapA, foot_mapA, factsP_mapA, foot_bun, List.append_nil, List.nil_append, List.cons_append, List.nodup_cons, List.nodup_nil, List.mem_cons, List.not_mem_nil, List.mem_singleton, List.forall_mem_cons, not_or, not_false_eq_true, and_true, true_and, or_false, false_or, forall_eq_or_imp, forall_eq, implies_true, Nat.zero_add, Nat.reduceAdd, and_assoc, factsP_all, ptb_all, upd_all, Nat.mul_one, hdCells] at cs
                  have v1 := PT.out _ _ O (by simp [Tk.sel])
                  try simp only [cellsQ, roomP, and_assoc, and_true, true_and, Nat.add_zero, Nat.zero_add, Nat.reduceAdd, factsP, cellsP, roomP, foots_cons, foots_nil, foots_append, foot_pt, ptb, ptb_mapA, foot_mapA, factsP_mapA, foot_bun, List.append_nil, List.nil_append, List.cons_append, List.nodup_cons, List.nodup_nil, List.mem_cons, List.not_mem_nil, List.mem_singleton, List.forall_mem_cons, not_or, not_false_eq_true, and_true, true_and, or_false, false_or, forall_eq_or_imp, forall_eq, implies_true, Nat.zero_add, Nat.reduceAdd, and_assoc, factsP_all, ptb_all, upd_all, Nat.mul_one, hdCells] at v1
                  go_upto_region 22 with fail
                  apply region_held_mem [false, false, true, true, true, false, false, true] (by kernel_rfl)
                  case O => repeat' (first | (with_reducible exact O) | (with_reducible apply Mem.drew) | (with_reducible apply Mem.drewN) | (with_reducible apply Mem.ext) | (with_reducible apply Mem.alloc) | (with_reducible apply Mem.setCell) | (simp only [ptb, ptb_upd, foots_cons, List.mem_cons, World.size_alloc, size_ext, World.size_setCell, true_or, or_true, eq_self_iff_true, ptb_all]))
                  case' h =>
                    intro wr4 O'
                    (try clear O)
                    have O := O'
                    clear O'
                    (first | simp only [sel, rst, List.cons_append, List.nil_append, World.size_alloc, size_ext, World.size_setCell, size_setMap, World.size_drew, size_drewN, upd, List.set_cons_zero, List.set_cons_succ, if_true, if_false, reduceIte, not_false_eq_true, ne_lt0, ne_lt1, ne_lt2, ne_lt3, ne_lt4, upd_all, cs] at O | simp only [sel, rst, List.cons_append, List.nil_append, World.size_alloc, size_ext, World.size_setCell, size_setMap, World.size_drew, size_drewN, upd, List.set_cons_zero, List.set_cons_succ, if_true, if_false, reduceIte, not_false_eq_true, ne_lt0, ne_lt1, ne_lt2, ne_lt3, ne_lt4, upd_all] at O | skip)
                    (try clear cs)
                    (try clear v1)
                    (try clear v2)
                    (try clear v3)
                  refine takeH (i := 0) (v := ?v4_1) rfl (by kernel_rfl) (by kernel_rfl) (by kernel_rfl) (fun _ _ _ h => h) (by rfl) ?y4_1 (O.sel [false, false, true, true, true, false, false, true]) ?r4_1
                  case y4_1 =>
                    intro WW hSw
                    (go_simp) <;> (with_reducible rfl)
                  case' r4_1 =>
                    try simp only [Act.put, List.setIfInBounds_toArray, List.set_cons_zero, List.set_cons_succ]
                  refine takeH (i := 1) (v := ?v4_2) rfl (by kernel_rfl) (by kernel_rfl) (by kernel_rfl) (fun _ _ _ h => h) (by rfl) ?y4_2 (O.sel [false, false, true, true, true, false, false, true]) ?r4_2
                  case y4_2 =>
                    intro WW hSw
                    (go_simp) <;> (with_reducible rfl)
                  case' r4_2 =>
                    try simp only [Act.put, List.setIfInBounds_toArray, List.set_cons_zero, List.set_cons_succ]
                  refine takeH (i := 2) (v := ?v4_3) rfl (by kernel_rfl) (by kernel_rfl) (by kernel_rfl) (fun _ _ _ h => h) (by rfl) ?y4_3 (O.sel [false, false, true, true, true, false, false, true]) ?r4_3
                  case y4_3 =>
                    intro WW hSw
                    replace hSw : Mem _ _ WW _ := hSw
                    have cs := hSw.facts
                    simp only [sel, factsP, cellsP, roomP, foots_cons, foots_nil, foots_append, foot_pt, ptb, ptb_mapA, foot_mapA, factsP_mapA, foot_bun, List.append_nil, List.nil_append, List.cons_append, List.nodup_cons, List.nodup_nil, List.mem_cons, List.not_mem_nil, List.mem_singleton, List.forall_mem_cons, not_or, not_false_eq_true, and_true, true_and, or_false, false_or, forall_eq_or_imp, forall_eq, implies_true, Nat.zero_add, Nat.reduceAdd, and_assoc, factsP_all, ptb_all, upd_all, Nat.mul_one, hdCells] at cs
                    have v1 := PT.out _ _ hSw (by simp [Tk.sel])
                    try simp only [cellsQ, roomP, and_assoc, and_true, true_and, Nat.add_zero, Nat.zero_add, Nat.reduceAdd, factsP, cellsP, roomP, foots_cons, foots_nil, foots_append, foot_pt, ptb, ptb_mapA, foot_mapA, factsP_mapA, foot_bun, List.append_nil, List.nil_append, List.cons_append, List.nodup_cons, List.nodup_nil, List.mem_cons, List.not_mem_nil, List.mem_singleton, List.forall_mem_cons, not_or, not_false_eq_true, and_true, true_and, or_false, false_or, forall_eq_or_imp, forall_eq, implies_true, Nat.zero_add, Nat.reduceAdd, and_assoc, factsP_all, ptb_all, upd_all, Nat.mul_one, hdCells] at v1
                    (go_simp) <;> (with_reducible rfl)
                  case' r4_3 =>
                    try simp only [Act.put, List.setIfInBounds_toArray, List.set_cons_zero, List.set_cons_succ]
                  refine takeH (i := 4) (v := ?v4_4) rfl (by kernel_rfl) (by kernel_rfl) (by kernel_rfl) (fun _ _ _ h => h) (by rfl) ?y4_4 (O.sel [false, false, true, true, true, false, false, true]) ?r4_4
                  case y4_4 =>
                    intro WW hSw
                    (go_simp) <;> (with_reducible rfl)
                  case' r4_4 =>
                    try simp only [Act.put, List.setIfInBounds_toArray, List.set_cons_zero, List.set_cons_succ]
                  refine takeH (i := 5) (v := ?v4_5) rfl (by kernel_rfl) (by kernel_rfl) (by kernel_rfl) (fun _ _ _ h => h) (by rfl) ?y4_5 (O.sel [false, false, true, true, true, false, false, true]) ?r4_5
                  case y4_5 =>
                    intro WW hSw
                    (go_simp) <;> (with_reducible rfl)
                  case' r4_5 =>
                    try simp only [Act.put, List.setIfInBounds_toArray, List.set_cons_zero, List.set_cons_succ]
                  refine takeH (i := 8) (v := ?v4_6) rfl (by kernel_rfl) (by kernel_rfl) (by kernel_rfl) (fun _ _ _ h => h) (by rfl) ?y4_6 (O.sel [false, false, true, true, true, false, false, true]) ?r4_6
                  case y4_6 =>
                    intro WW hSw
                    (go_simp) <;> (with_reducible rfl)
                  case' r4_6 =>
                    try simp only [Act.put, List.setIfInBounds_toArray, List.set_cons_zero, List.set_cons_succ]
                  refine takeH (i := 9) (v := ?v4_7) rfl (by kernel_rfl) (by kernel_rfl) (by kernel_rfl) (fun _ _ _ h => h) (by rfl) ?y4_7 (O.sel [false, false, true, true, true, false, false, true]) ?r4_7
                  case y4_7 =>
                    intro WW hSw
                    replace hSw : Mem _ _ WW _ := hSw
                    have cs := hSw.facts
                    simp only [sel, factsP, cellsP, roomP, foots_cons, foots_nil, foots_append, foot_pt, ptb, ptb_mapA, foot_mapA, factsP_mapA, foot_bun, List.append_nil, List.nil_append, List.cons_append, List.nodup_cons, List.nodup_nil, List.mem_cons, List.not_mem_nil, List.mem_singleton, List.forall_mem_cons, not_or, not_false_eq_true, and_true, true_and, or_false, false_or, forall_eq_or_imp, forall_eq, implies_true, Nat.zero_add, Nat.reduceAdd, and_assoc, factsP_all, ptb_all, upd_all, Nat.mul_one, hdCells] at cs
                    have v1 := PT.out _ _ hSw (by simp [Tk.sel])
                    try simp only [cellsQ, roomP, and_assoc, and_true, true_and, Nat.add_zero, Nat.zero_add, Nat.reduceAdd, factsP, cellsP, roomP, foots_cons, foots_nil, foots_append, foot_pt, ptb, ptb_mapA, foot_mapA, factsP_mapA, foot_bun, List.append_nil, List.nil_append, List.cons_append, List.nodup_cons, List.nodup_nil, List.mem_cons, List.not_mem_nil, List.mem_singleton, List.forall_mem_cons, not_or, not_false_eq_true, and_true, true_and, or_false, false_or, forall_eq_or_imp, forall_eq, implies_true, Nat.zero_add, Nat.reduceAdd, and_assoc, factsP_all, ptb_all, upd_all, Nat.mul_one, hdCells] at v1
                    (go_simp) <;> (with_reducible rfl)
                  case' r4_7 =>
                    try simp only [Act.put, List.setIfInBounds_toArray, List.set_cons_zero, List.set_cons_succ]
                  refine takeH (i := 10) (v := ?v4_8) rfl (by kernel_rfl) (by kernel_rfl) (by kernel_rfl) (fun _ _ _ h => h) (by rfl) ?y4_8 (O.sel [false, false, true, true, true, false, false, true]) ?r4_8
                  case y4_8 =>
                    intro WW hSw
                    (go_simp) <;> (with_reducible rfl)
                  case' r4_8 =>
                    try simp only [Act.put, List.setIfInBounds_toArray, List.set_cons_zero, List.set_cons_succ]
                  refine takeH (i := 11) (v := ?v4_9) rfl (by kernel_rfl) (by kernel_rfl) (by kernel_rfl) (fun _ _ _ h => h) (by rfl) ?y4_9 (O.sel [false, false, true, true, true, false, false, true]) ?r4_9
                  case y4_9 =>
                    intro WW hSw
                    replace hSw : Mem _ _ WW _ := hSw
                    have cs := hSw.facts
                    simp only [sel, factsP, cellsP, roomP, foots_cons, foots_nil, foots_append, foot_pt, ptb, ptb_mapA, foot_mapA, factsP_mapA, foot_bun, List.append_nil, List.nil_append, List.cons_append, List.nodup_cons, List.nodup_nil, List.mem_cons, List.not_mem_nil, List.mem_singleton, List.forall_mem_cons, not_or, not_false_eq_true, and_true, true_and, or_false, false_or, forall_eq_or_imp, forall_eq, implies_true, Nat.zero_add, Nat.reduceAdd, and_assoc, factsP_all, ptb_all, upd_all, Nat.mul_one, hdCells] at cs
                    have v1 := PT.out _ _ hSw (by simp [Tk.sel])
                    try simp only [cellsQ, roomP, and_assoc, and_true, true_and, Nat.add_zero, Nat.zero_add, Nat.reduceAdd, factsP, cellsP, roomP, foots_cons, foots_nil, foots_append, foot_pt, ptb, ptb_mapA, foot_mapA, factsP_mapA, foot_bun, List.append_nil, List.nil_append, List.cons_append, List.nodup_cons, List.nodup_nil, List.mem_cons, List.not_mem_nil, List.mem_singleton, List.forall_mem_cons, not_or, not_false_eq_true, and_true, true_and, or_false, false_or, forall_eq_or_imp, forall_eq, implies_true, Nat.zero_add, Nat.reduceAdd, and_assoc, factsP_all, ptb_all, upd_all, Nat.mul_one, hdCells] at v1
                    (go_simp) <;> (with_reducible rfl)
                  case' r4_9 =>
                    try simp only [Act.put, List.setIfInBounds_toArray, List.set_cons_zero, List.set_cons_succ]
                  refine takeH (i := 12) (v := ?v4_10) rfl (by kernel_rfl) (by kernel_rfl) (by kernel_rfl) (fun _ _ _ h => h) (by rfl) ?y4_10 (O.sel [false, false, true, true, true, false, false, true]) ?r4_10
                  case y4_10 =>
                    intro WW hSw
                    (go_simp) <;> (with_reducible rfl)
                  case' r4_10 =>
                    try simp only [Act.put, List.setIfInBounds_toArray, List.set_cons_zero, List.set_cons_succ]
                  refine takeH (i := 13) (v := ?v4_11) rfl (by kernel_rfl) (by kernel_rfl) (by kernel_rfl) (fun _ _ _ h => h) (by rfl) ?y4_11 (O.sel [false, false, true, true, true, false, false, true]) ?r4_11
                  case y4_11 =>
                    intro WW hSw
                    replace hSw : Mem _ _ WW _ := hSw
                    have cs := hSw.facts
                    simp only [sel, factsP, cellsP, roomP, foots_cons, foots_nil, foots_append, foot_pt, ptb, ptb_mapA, foot_mapA, factsP_mapA, foot_bun, List.append_nil, List.nil_append, List.cons_append, List.nodup_cons, List.nodup_nil, List.mem_cons, List.not_mem_nil, List.mem_singleton, List.forall_mem_cons, not_or, not_false_eq_true, and_true, true_and, or_false, false_or, forall_eq_or_imp, forall_eq, implies_true, Nat.zero_add, Nat.reduceAdd, and_assoc, factsP_all, ptb_all, upd_all, Nat.mul_one, hdCells] at cs
                    have v1 := PT.out _ _ hSw (by simp [Tk.sel])
                    try simp only [cellsQ, roomP, and_assoc, and_true, true_and, Nat.add_zero, Nat.zero_add, Nat.reduceAdd, factsP, cellsP, roomP, foots_cons, foots_nil, foots_append, foot_pt, ptb, ptb_mapA, foot_mapA, factsP_mapA, foot_bun, List.append_nil, List.nil_append, List.cons_append, List.nodup_cons, List.nodup_nil, List.mem_cons, List.not_mem_nil, List.mem_singleton, List.forall_mem_cons, not_or, not_false_eq_true, and_true, true_and, or_false, false_or, forall_eq_or_imp, forall_eq, implies_true, Nat.zero_add, Nat.reduceAdd, and_assoc, factsP_all, ptb_all, upd_all, Nat.mul_one, hdCells] at v1
                    (go_simp) <;> (with_reducible rfl)
                  case' r4_11 =>
                    try simp only [Act.put, List.setIfInBounds_toArray, List.set_cons_zero, List.set_cons_succ]
                  refine takeH (i := 14) (v := ?v4_12) rfl (by kernel_rfl) (by kernel_rfl) (by kernel_rfl) (fun _ _ _ h => h) (by rfl) ?y4_12 (O.sel [false, false, true, true, true, false, false, true]) ?r4_12
                  case y4_12 =>
                    intro WW hSw
                    (go_simp) <;> (with_reducible rfl)
                  case' r4_12 =>
                    try simp only [Act.put, List.setIfInBounds_toArray, List.set_cons_zero, List.set_cons_succ]
                  refine takeH (i := 15) (v := ?v4_13) rfl (by kernel_rfl) (by kernel_rfl) (by kernel_rfl) (fun _ _ _ h => h) (by rfl) ?y4_13 (O.sel [false, false, true, true, true, false, false, true]) ?r4_13
                  case y4_13 =>
                    intro WW hSw
                    replace hSw : Mem _ _ WW _ := hSw
                    have cs := hSw.facts
                    simp only [sel, factsP, cellsP, roomP, foots_cons, foots_nil, foots_append, foot_pt, ptb, ptb_mapA, foot_mapA, factsP_mapA, foot_bun, List.append_nil, List.nil_append, List.cons_append, List.nodup_cons, List.nodup_nil, List.mem_cons, List.not_mem_nil, List.mem_singleton, List.forall_mem_cons, not_or, not_false_eq_true, and_true, true_and, or_false, false_or, forall_eq_or_imp, forall_eq, implies_true, Nat.zero_add, Nat.reduceAdd, and_assoc, factsP_all, ptb_all, upd_all, Nat.mul_one, hdCells] at cs
                    have v1 := PT.out _ _ hSw (by simp [Tk.sel])
                    try simp only [cellsQ, roomP, and_assoc, and_true, true_and, Nat.add_zero, Nat.zero_add, Nat.reduceAdd, factsP, cellsP, roomP, foots_cons, foots_nil, foots_append, foot_pt, ptb, ptb_mapA, foot_mapA, factsP_mapA, foot_bun, List.append_nil, List.nil_append, List.cons_append, List.nodup_cons, List.nodup_nil, List.mem_cons, List.not_mem_nil, List.mem_singleton, List.forall_mem_cons, not_or, not_false_eq_true, and_true, true_and, or_false, false_or, forall_eq_or_imp, forall_eq, implies_true, Nat.zero_add, Nat.reduceAdd, and_assoc, factsP_all, ptb_all, upd_all, Nat.mul_one, hdCells] at v1
                    (go_simp) <;> (with_reducible rfl)
                  case' r4_13 =>
                    try simp only [Act.put, List.setIfInBounds_toArray, List.set_cons_zero, List.set_cons_succ]
                  refine takeH (i := 16) (v := ?v4_14) rfl (by kernel_rfl) (by kernel_rfl) (by kernel_rfl) (fun _ _ _ h => h) (by rfl) ?y4_14 (O.sel [false, false, true, true, true, false, false, true]) ?r4_14
                  case y4_14 =>
                    intro WW hSw
                    (go_simp) <;> (with_reducible rfl)
                  case' r4_14 =>
                    try simp only [Act.put, List.setIfInBounds_toArray, List.set_cons_zero, List.set_cons_succ]
                  refine takeH (i := 17) (v := ?v4_15) rfl (by kernel_rfl) (by kernel_rfl) (by kernel_rfl) (fun _ _ _ h => h) (by rfl) ?y4_15 (O.sel [false, false, true, true, true, false, false, true]) ?r4_15
                  case y4_15 =>
                    intro WW hSw
                    replace hSw : Mem _ _ WW _ := hSw
                    have cs := hSw.facts
                    simp only [sel, factsP, cellsP, roomP, foots_cons, foots_nil, foots_append, foot_pt, ptb, ptb_mapA, foot_mapA, factsP_mapA, foot_bun, List.append_nil, List.nil_append, List.cons_append, List.nodup_cons, List.nodup_nil, List.mem_cons, List.not_mem_nil, List.mem_singleton, List.forall_mem_cons, not_or, not_false_eq_true, and_true, true_and, or_false, false_or, forall_eq_or_imp, forall_eq, implies_true, Nat.zero_add, Nat.reduceAdd, and_assoc, factsP_all, ptb_all, upd_all, Nat.mul_one, hdCells] at cs
                    have v1 := PT.out _ _ hSw (by simp [Tk.sel])
                    try simp only [cellsQ, roomP, and_assoc, and_true, true_and, Nat.add_zero, Nat.zero_add, Nat.reduceAdd, factsP, cellsP, roomP, foots_cons, foots_nil, foots_append, foot_pt, ptb, ptb_mapA, foot_mapA, factsP_mapA, foot_bun, List.append_nil, List.nil_append, List.cons_append, List.nodup_cons, List.nodup_nil, List.mem_cons, List.not_mem_nil, List.mem_singleton, List.forall_mem_cons, not_or, not_false_eq_true, and_true, true_and, or_false, false_or, forall_eq_or_imp, forall_eq, implies_true, Nat.zero_add, Nat.reduceAdd, and_assoc, factsP_all, ptb_all, upd_all, Nat.mul_one, hdCells] at v1
                    (go_simp) <;> (with_reducible rfl)
                  case' r4_15 =>
                    try simp only [Act.put, List.setIfInBounds_toArray, List.set_cons_zero, List.set_cons_succ]
                  refine takeH (i := 18) (v := ?v4_16) rfl (by kernel_rfl) (by kernel_rfl) (by kernel_rfl) (fun _ _ _ h => h) (by rfl) ?y4_16 (O.sel [false, false, true, true, true, false, false, true]) ?r4_16
                  case y4_16 =>
                    intro WW hSw
                    (go_simp) <;> (with_reducible rfl)
                  case' r4_16 =>
                    try simp only [Act.put, List.setIfInBounds_toArray, List.set_cons_zero, List.set_cons_succ]
                  refine takeH (i := 19) (v := ?v4_17) rfl (by kernel_rfl) (by kernel_rfl) (by kernel_rfl) (fun _ _ _ h => h) (by rfl) ?y4_17 (O.sel [false, false, true, true, true, false, false, true]) ?r4_17
                  case y4_17 =>
                    intro WW hSw
                    replace hSw : Mem _ _ WW _ := hSw
                    have cs := hSw.facts
                    simp only [sel, factsP, cellsP, roomP, foots_cons, foots_nil, foots_append, foot_pt, ptb, ptb_mapA, foot_mapA, factsP_mapA, foot_bun, List.append_nil, List.nil_append, List.cons_append, List.nodup_cons, List.nodup_nil, List.mem_cons, List.not_mem_nil, List.mem_singleton, List.forall_mem_cons, not_or, not_false_eq_true, and_true, true_and, or_false, false_or, forall_eq_or_imp, forall_eq, implies_true, Nat.zero_add, Nat.reduceAdd, and_assoc, factsP_all, ptb_all, upd_all, Nat.mul_one, hdCells] at cs
                    have v1 := PT.out _ _ hSw (by simp [Tk.sel])
                    try simp only [cellsQ, roomP, and_assoc, and_true, true_and, Nat.add_zero, Nat.zero_add, Nat.reduceAdd, factsP, cellsP, roomP, foots_cons, foots_nil, foots_append, foot_pt, ptb, ptb_mapA, foot_mapA, factsP_mapA, foot_bun, List.append_nil, List.nil_append, List.cons_append, List.nodup_cons, List.nodup_nil, List.mem_cons, List.not_mem_nil, List.mem_singleton, List.forall_mem_cons, not_or, not_false_eq_true, and_true, true_and, or_false, false_or, forall_eq_or_imp, forall_eq, implies_true, Nat.zero_add, Nat.reduceAdd, and_assoc, factsP_all, ptb_all, upd_all, Nat.mul_one, hdCells] at v1
                    (go_simp) <;> (with_reducible rfl)
                  case' r4_17 =>
                    try simp only [Act.put, List.setIfInBounds_toArray, List.set_cons_zero, List.set_cons_succ]
                  refine wpAnyH_ready (rs := [3]) (by kernel_rfl) (by simp) ?_
                  refine consH rfl (fun K hK => ?_) AllReadyH.nil
                  have cs := O.facts
                  simp only [factsP, cellsP, roomP, foots_cons, foots_nil, foots_append, foot_pt, ptb, ptb_mapA, foot_mapA, factsP_mapA, foot_bun, List.append_nil, List.nil_append, List.cons_append, List.nodup_cons, List.nodup_nil, List.mem_cons, List.not_mem_nil, List.mem_singleton, List.forall_mem_cons, not_or, not_false_eq_true, and_true, true_and, or_false, false_or, forall_eq_or_imp, forall_eq, implies_true, Nat.zero_add, Nat.reduceAdd, and_assoc, factsP_all, ptb_all, upd_all, Nat.mul_one, hdCells] at cs
                  have v1 := PT.out _ _ O (by simp [Tk.sel])
                  try simp only [cellsQ, roomP, and_assoc, and_true, true_and, Nat.add_zero, Nat.zero_add, Nat.reduceAdd, factsP, cellsP, roomP, foots_cons, foots_nil, foots_append, foot_pt, ptb, ptb_mapA, foot_mapA, factsP_mapA, foot_bun, List.append_nil, List.nil_append, List.cons_append, List.nodup_cons, List.nodup_nil, List.mem_cons, List.not_mem_nil, List.mem_singleton, List.forall_mem_cons, not_or, not_false_eq_true, and_true, true_and, or_false, false_or, forall_eq_or_imp, forall_eq, implies_true, Nat.zero_add, Nat.reduceAdd, and_assoc, factsP_all, ptb_all, upd_all, Nat.mul_one, hdCells] at v1
                  go_simp
                  apply Mem.atCall
                  case h => repeat' (first | (with_reducible exact O) | (with_reducible apply Mem.drew) | (with_reducible apply Mem.drewN) | (with_reducible apply Mem.ext) | (with_reducible apply Mem.alloc) | (with_reducible apply Mem.setCell) | (simp only [ptb, ptb_upd, foots_cons, List.mem_cons, World.size_alloc, size_ext, World.size_setCell, true_or, or_true, eq_self_iff_true, ptb_all]))
                  intro w4_18 O'
                  (try clear O)
                  have O := O'
                  clear O'
                  (first | simp only [sel, rst, List.cons_append, List.nil_append, World.size_alloc, size_ext, World.size_setCell, size_setMap, World.size_drew, size_drewN, upd, List.set_cons_zero, List.set_cons_succ, if_true, if_false, reduceIte, not_false_eq_true, ne_lt0, ne_lt1, ne_lt2, ne_lt3, ne_lt4, upd_all, cs] at O | simp only [sel, rst, List.cons_append, List.nil_append, World.size_alloc, size_ext, World.size_setCell, size_setMap, World.size_drew, size_drewN, upd, List.set_cons_zero, List.set_cons_succ, if_true, if_false, reduceIte, not_false_eq_true, ne_lt0, ne_lt1, ne_lt2, ne_lt3, ne_lt4, upd_all] at O | skip)
                  (try clear cs)
                  (try clear v1)
                  (try clear v2)
                  (try clear v3)
                  refine (CPM.out _).mono ?_
                  rintro e w4_18' ⟨rfl, o⟩
                  replace O := O.callp [] o
                  clear o
                  simp only [put, List.cons_append, List.nil_append] at O
                  go_wp2_with fail
                  refine hK.out _ _ (O.sel [false, false, true, true, true, false, false, true]) (fun _ => ?_)
                  clear hK K
                  refine takeH (i := 6) (v := ?v4_19) rfl (by kernel_rfl) (by kernel_rfl) (by kernel_rfl) (fun _ _ _ h => h) (by rfl) ?y4_19 (O.sel [false, false, true, true, true, false, false, true]) ?r4_19
                  case y4_19 =>
                    intro WW hSw
                    replace hSw : Mem _ _ WW _ := hSw
                    have cs := hSw.facts
                    simp only [sel, factsP, cellsP, roomP, foots_cons, foots_nil, foots_append, foot_pt, ptb, ptb_mapA, foot_mapA, factsP_mapA, foot_bun, List.append_nil, List.nil_append, List.cons_append, List.nodup_cons, List.nodup_nil, List.mem_cons, List.not_mem_nil, List.mem_singleton, List.forall_mem_cons, not_or, not_false_eq_true, and_true, true_and, or_false, false_or, forall_eq_or_imp, forall_eq, implies_true, Nat.zero_add, Nat.reduceAdd, and_assoc, factsP_all, ptb_all, upd_all, Nat.mul_one, hdCells] at cs
                    have v1 := PT.out _ _ hSw (by simp [Tk.sel])
                    try simp only [cellsQ, roomP, and_assoc, and_true, true_and, Nat.add_zero, Nat.zero_add, Nat.reduceAdd, factsP, cellsP, roomP, foots_cons, foots_nil, foots_append, foot_pt, ptb, ptb_mapA, foot_mapA, factsP_mapA, foot_bun, List.append_nil, List.nil_append, List.cons_append, List.nodup_cons, List.nodup_nil, List.mem_cons, List.not_mem_nil, List.mem_singleton, List.forall_mem_cons, not_or, not_false_eq_true, and_true, true_and, or_false, false_or, forall_eq_or_imp, forall_eq, implies_true, Nat.zero_add, Nat.reduceAdd, and_assoc, factsP_all, ptb_all, upd_all, Nat.mul_one, hdCells] at v1
                    (go_simp) <;> (with_reducible rfl)
                  case' r4_19 =>
                    try simp only [Act.put, List.setIfInBounds_toArray, List.set_cons_zero, List.set_cons_succ]
                  refine takeH (i := 7) (v := ?v4_20) rfl (by kernel_rfl) (by kernel_rfl) (by kernel_rfl) (fun _ _ _ h => h) (by rfl) ?y4_20 (O.sel [false, false, true, true, true, false, false, true]) ?r4_20
                  case y4_20 =>
                    intro WW hSw
                    replace hSw : Mem _ _ WW _ := hSw
                    have cs := hSw.facts
                    simp only [sel, factsP, cellsP, roomP, foots_cons, foots_nil, foots_append, foot_pt, ptb, ptb_mapA, foot_mapA, factsP_mapA, foot_bun, List.append_nil, List.nil_append, List.cons_append, List.nodup_cons, List.nodup_nil, List.mem_cons, List.not_mem_nil, List.mem_singleton, List.forall_mem_cons, not_or, not_false_eq_true, and_true, true_and, or_false, false_or, forall_eq_or_imp, forall_eq, implies_true, Nat.zero_add, Nat.reduceAdd, and_assoc, factsP_all, ptb_all, upd_all, Nat.mul_one, hdCells] at cs
                    have v1 := PT.out _ _ hSw (by simp [Tk.sel])
                    try simp only [cellsQ, roomP, and_assoc, and_true, true_and, Nat.add_zero, Nat.zero_add, Nat.reduceAdd, factsP, cellsP, roomP, foots_cons, foots_nil, foots_append, foot_pt, ptb, ptb_mapA, foot_mapA, factsP_mapA, foot_bun, List.append_nil, List.nil_append, List.cons_append, List.nodup_cons, List.nodup_nil, List.mem_cons, List.not_mem_nil, List.mem_singleton, List.forall_mem_cons, not_or, not_false_eq_true, and_true, true_and, or_false, false_or, forall_eq_or_imp, forall_eq, implies_true, Nat.zero_add, Nat.reduceAdd, and_assoc, factsP_all, ptb_all, upd_all, Nat.mul_one, hdCells] at v1
                    (go_simp) <;> (with_reducible rfl)
                  case' r4_20 =>
                    try simp only [Act.put, List.setIfInBounds_toArray, List.set_cons_zero, List.set_cons_succ]
                  refine wpAnyH_ready (rs := [20]) (by kernel_rfl) (by simp) ?_
                  refine consH rfl (fun K hK => ?_) AllReadyH.nil
                  have cs := O.facts
                  simp only [factsP, cellsP, roomP, foots_cons, foots_nil, foots_append, foot_pt, ptb, ptb_mapA, foot_mapA, factsP_mapA, foot_bun, List.append_nil, List.nil_append, List.cons_append, List.nodup_cons, List.nodup_nil, List.mem_cons, List.not_mem_nil, List.mem_singleton, List.forall_mem_cons, not_or, not_false_eq_true, and_true, true_and, or_false, false_or, forall_eq_or_imp, forall_eq, implies_true, Nat.zero_add, Nat.reduceAdd, and_assoc, factsP_all, ptb_all, upd_all, Nat.mul_one, hdCells] at cs
                  have v1 := PT.out _ _ O (by simp [Tk.sel])
                  try simp only [cellsQ, roomP, and_assoc, and_true, true_and, Nat.add_zero, Nat.zero_add, Nat.reduceAdd, factsP, cellsP, roomP, foots_cons, foots_nil, foots_append, foot_pt, ptb, ptb_mapA, foot_mapA, factsP_mapA, foot_bun, List.append_nil, List.nil_append, List.cons_append, List.nodup_cons, List.nodup_nil, List.mem_cons, List.not_mem_nil, List.mem_singleton, List.forall_mem_cons, not_or, not_false_eq_true, and_true, true_and, or_false, false_or, forall_eq_or_imp, forall_eq, implies_true, Nat.zero_add, Nat.reduceAdd, and_assoc, factsP_all, ptb_all, upd_all, Nat.mul_one, hdCells] at v1
                  go_simp
                  apply Mem.atCall
                  case h => repeat' (first | (with_reducible exact O) | (with_reducible apply Mem.drew) | (with_reducible apply Mem.drewN) | (with_reducible apply Mem.ext) | (with_reducible apply Mem.alloc) | (with_reducible apply Mem.setCell) | (simp only [ptb, ptb_upd, foots_cons, List.mem_cons, World.size_alloc, size_ext, World.size_setCell, true_or, or_true, eq_self_iff_true, ptb_all]))
                  intro w4_21 O'
                  (try clear O)
                  have O := O'
                  clear O'
                  (first | simp only [sel, rst, List.cons_append, List.nil_append, World.size_alloc, size_ext, World.size_setCell, size_setMap, World.size_drew, size_drewN, upd, List.set_cons_zero, List.set_cons_succ, if_true, if_false, reduceIte, not_false_eq_true, ne_lt0, ne_lt1, ne_lt2, ne_lt3, ne_lt4, upd_all, cs] at O | simp only [sel, rst, List.cons_append, List.nil_append, World.size_alloc, size_ext, World.size_setCell, size_setMap, World.size_drew, size_drewN, upd, List.set_cons_zero, List.set_cons_succ, if_true, if_false, reduceIte, not_false_eq_true, ne_lt0, ne_lt1, ne_lt2, ne_lt3, ne_lt4, upd_all] at O | skip)
                  (try clear cs)
                  (try clear v1)
                  (try clear v2)
                  (try clear v3)
                  refine (CH.out _ (O.pre [true])).mono ?_
                  rintro e w4_21' ⟨xM, hxM, rfl, o⟩
                  replace O := O.callp [true] o
                  clear o
                  simp only [put, List.cons_append, List.nil_append] at O
                  go_wp2_with fail
                  refine hK.out _ _ (O.sel [false, false, true, true, true, false, false, true]) (fun _ => ?_)
                  clear hK K
                  refine wpAnyH_done (by kernel_rfl) ?_ _
                  obtain ⟨hM1, hM2, hM3⟩ := hxM
                  replace O := Mem.famPut (f := mgF) (a' := xM.1) O (List.getElem?_eq_some_iff.1 HMK.out).1
                  replace O := (((((O).front [false, false, false, false, false, false, true]).front [false, false, false, false, false, false, true]).front [false, false, true]).front [false, false, false, false, false, false, true]).front [false, false, false, false, false, false, true]
                  simp only [Tk.sel, rst, List.cons_append, List.nil_append] at O
                  replace O := O.sel [true, true, true, true, true]
                  simp only [Tk.sel] at O
                  skip
                  have cs := O.facts
                  try simp only [factsP, cellsP, roomP, foots_cons, foots_nil, foots_append, foot_pt, ptb, ptb_mapA, foot_mapA, factsP_mapA, foot_bun, List.append_nil, List.nil_append, List.cons_append, List.nodup_cons, List.nodup_nil, List.mem_cons, List.not_mem_nil, List.mem_singleton, List.forall_mem_cons, not_or, not_false_eq_true, and_true, true_and, or_false, false_or, forall_eq_or_imp, forall_eq, implies_true, Nat.zero_add, Nat.reduceAdd, and_assoc, factsP_all, ptb_all, upd_all, Nat.mul_one, hdCells] at cs
                  go_wp2_with fail
                  go_meet
                  refine ⟨wd, own, ws, pt, pm, us, ms.set m xM.1, some ⟨g, 0, none⟩, lc, by rw [HN.out]; exact HC.out, HTb.out, HMn.out.set HMK.out hM1, ?_, by simp only [wldL, txCells, HN.out]; exact O⟩
                  rw [List.map_set]
                  exact HW.out.hear (by rw [List.getElem?_map, HMK.out]; rfl) hM2 hM3
              · by_cases h1 : vk = 1 ∧ x.inc r ≠ 0
                · as_aux_lemma =>
                    obtain ⟨rfl, h0⟩ := h1
                    have VX := Lib.hid (fun W (h : Fr [] w W) => arg_view hbx hqx h)
                    simp only [itCells, cellsQ, Nat.add_zero, Nat.reduceAdd, and_true, Nat.zero_add] at VX
                    have VI := Lib.hid (fun W (h : Fr [] w W) => inc_cell hr (VX.out W h))
                    have HXB : Hid (∀ W, Fr [] w W → roomP bx W.heap.size ∧ W.cell? ⟨bx, ox + i * 8, none⟩ = some (.int .i64 x.bucket)) := Lib.hid (fun W f => bk_cell (VX.out W f))
                    have hinc : (x.inc r == 0) = false := by simpa using h0
                    have hinc2 : (x.inc r != 0) = true := by simpa using h0
                    have ho : pickN va 3 < 3 := pickN_lt (by omega)
                    have hm3 : pickN vm 3 < 3 := pickN_lt (by omega)
                    have CPA := Lib.hid (fun W => (q_pick va 3 hva (by omega) (by omega) W : Calls Try.prog 11 #[.int .i64 va, .int .i64 3] W _))
                    have CPM := Lib.hid (fun W => (q_pick vm 3 hvm (by omega) (by omega) W : Calls Try.prog 11 #[.int .i64 vm, .int .i64 3] W _))
                    generalize pickN va 3 = out at CPA ho
                    generalize pickN vm 3 = m at CPM hm3
                    have hin := inst_ok (t := (TxS.mk tid tcl t0 t1 t2 (some ⟨bx, ox, none⟩) tc ts)) HRT.out HT.out.wid hx hr
                    have CP := Lib.hid (fun W hW hxx => w_propose W xb ws tid bx ox n tc pt pm own LA lc wd k HW.out.ok (by omega) HW.out.rd HC.out us HTb.out hW i r out m x.bucket hxx hi ho hm3 hin.2.2 (by omega))
                    have HIN := Lib.hid hin.2.2
                    clear hin
                    replace O := ((((((O).front [true]).front [false, false, false, false, false, true]).front [false, false, false, false, true]).front [false, false, false, false, false, true]).front [false, false, false, false, false, true]).front [false, false, false, false, false, true]
                    simp only [Tk.sel, rst, List.cons_append, List.nil_append] at O
                    replace O := O.sel [true, true, true, true, true, true]
                    simp only [Tk.sel] at O
                    skip
                    have cs := O.facts
                    try simp only [factsP, cellsP, roomP, foots_cons, foots_nil, foots_append, foot_pt, ptb, ptb_mapA, foot_mapA, factsP_mapA, foot_bun, List.append_nil, List.nil_append, List.cons_append, List.nodup_cons, List.nodup_nil, List.mem_cons, List.not_mem_nil, List.mem_singleton, List.forall_mem_cons, not_or, not_false_eq_true, and_true, true_and, or_false, false_or, forall_eq_or_imp, forall_eq, implies_true, Nat.zero_add, Nat.reduceAdd, and_assoc, factsP_all, ptb_all, upd_all, Nat.mul_one, hdCells] at cs
                    try have v1 := VI.out _ O.fr
                    try simp only [cellsQ, roomP, and_assoc, and_true, true_and, Nat.add_zero, Nat.zero_add, Nat.reduceAdd, factsP, cellsP, roomP, foots_cons, foots_nil, foots_append, foot_pt, ptb, ptb_mapA, foot_mapA, factsP_mapA, foot_bun, List.append_nil, List.nil_append, List.cons_append, List.nodup_cons, List.nodup_nil, List.mem_cons, List.not_mem_nil, List.mem_singleton, List.forall_mem_cons, not_or, not_false_eq_true, and_true, true_and, or_false, false_or, forall_eq_or_imp, forall_eq, implies_true, Nat.zero_add, Nat.reduceAdd, and_assoc, factsP_all, ptb_all, upd_all, Nat.mul_one, hdCells] at v1
                    go_upto_region 24 with fail
                    apply region_held_mem [false, false, false, false, false, true] (by kernel_rfl)
                    case O => repeat' (first | (with_reducible exact O) | (with_reducible apply Mem.drew) | (with_reducible apply Mem.drewN) | (with_reducible apply Mem.ext) | (with_reducible apply Mem.alloc) | (with_reducible apply Mem.setCell) | (simp only [ptb, ptb_upd, foots_cons, List.mem_cons, World.size_alloc, size_ext, World.size_setCell, true_or, or_true, eq_self_iff_true, ptb_all]))
                    case' h =>
                      intro wr5 O'
                      (try clear O)
                      have O := O'
                      clear O'
                      (first | simp only [sel, rst, List.cons_append, List.nil_append, World.size_alloc, size_ext, World.size_setCell, size_setMap, World.size_drew, size_drewN, upd, List.set_cons_zero, List.set_cons_succ, if_true, if_false, reduceIte, not_false_eq_true, ne_lt0, ne_lt1, ne_lt2, ne_lt3, ne_lt4, upd_all, cs] at O | simp only [sel, rst, List.cons_append, List.nil_append, World.size_alloc, size_ext, World.size_setCell, size_setMap, World.size_drew, size_drewN, upd, List.set_cons_zero, List.set_cons_succ, if_true, if_false, reduceIte, not_false_eq_true, ne_lt0, ne_lt1, ne_lt2, ne_lt3, ne_lt4, upd_all] at O | skip)
                      (try clear cs)
                      (try clear v1)
                      (try clear v2)
                      (try clear v3)
                    refine takeH (i := 0) (v := ?v5_1) rfl (by kernel_rfl) (by kernel_rfl) (by kernel_rfl) (fun _ _ _ h => h) (by rfl) ?y5_1 (O.sel [false, false, false, false, false, true]) ?r5_1
                    case y5_1 =>
                      intro WW hSw
                      (go_simp) <;> (with_reducible rfl)
                    case' r5_1 =>
                      try simp only [Act.put, List.setIfInBounds_toArray, List.set_cons_zero, List.set_cons_succ]
                    refine takeH (i := 1) (v := ?v5_2) rfl (by kernel_rfl) (by kernel_rfl) (by kernel_rfl) (fun _ _ _ h => h) (by rfl) ?y5_2 (O.sel [false, false, false, false, false, true]) ?r5_2
                    case y5_2 =>
                      intro WW hSw
                      (go_simp) <;> (with_reducible rfl)
                    case' r5_2 =>
                      try simp only [Act.put, List.setIfInBounds_toArray, List.set_cons_zero, List.set_cons_succ]
                    refine takeH (i := 2) (v := ?v5_3) rfl (by kernel_rfl) (by kernel_rfl) (by kernel_rfl) (fun _ _ _ h => h) (by rfl) ?y5_3 (O.sel [false, false, false, false, false, true]) ?r5_3
                    case y5_3 =>
                      intro WW hSw
                      (go_simp) <;> (with_reducible rfl)
                    case' r5_3 =>
                      try simp only [Act.put, List.setIfInBounds_toArray, List.set_cons_zero, List.set_cons_succ]
                    refine takeH (i := 3) (v := ?v5_4) rfl (by kernel_rfl) (by kernel_rfl) (by kernel_rfl) (fun _ _ _ h => h) (by rfl) ?y5_4 (O.sel [false, false, false, false, false, true]) ?r5_4
                    case y5_4 =>
                      intro WW hSw
                      (go_simp) <;> (with_reducible rfl)
                    case' r5_4 =>
                      try simp only [Act.put, List.setIfInBounds_toArray, List.set_cons_zero, List.set_cons_succ]
                    refine takeH (i := 4) (v := ?v5_5) rfl (by kernel_rfl) (by kernel_rfl) (by kernel_rfl) (fun _ _ _ h => h) (by rfl) ?y5_5 (O.sel [false, false, false, false, false, true]) ?r5_5
                    case y5_5 =>
                      intro WW hSw
                      replace hSw : Mem _ _ WW _ := hSw
                      have cs := hSw.facts
                      simp only [sel, factsP, cellsP, roomP, foots_cons, foots_nil, foots_append, foot_pt, ptb, ptb_mapA, foot_mapA, factsP_mapA, foot_bun, List.append_nil, List.nil_append, List.cons_append, List.nodup_cons, List.nodup_nil, List.mem_cons, List.not_mem_nil, List.mem_singleton, List.forall_mem_cons, not_or, not_false_eq_true, and_true, true_and, or_false, false_or, forall_eq_or_imp, forall_eq, implies_true, Nat.zero_add, Nat.reduceAdd, and_assoc, factsP_all, ptb_all, upd_all, Nat.mul_one, hdCells] at cs
                      try have v1 := VI.out _ hSw.fr
                      try simp only [cellsQ, roomP, and_assoc, and_true, true_and, Nat.add_zero, Nat.zero_add, Nat.reduceAdd, factsP, cellsP, roomP, foots_cons, foots_nil, foots_append, foot_pt, ptb, ptb_mapA, foot_mapA, factsP_mapA, foot_bun, List.append_nil, List.nil_append, List.cons_append, List.nodup_cons, List.nodup_nil, List.mem_cons, List.not_mem_nil, List.mem_singleton, List.forall_mem_cons, not_or, not_false_eq_true, and_true, true_and, or_false, false_or, forall_eq_or_imp, forall_eq, implies_true, Nat.zero_add, Nat.reduceAdd, and_assoc, factsP_all, ptb_all, upd_all, Nat.mul_one, hdCells] at v1
                      (go_simp) <;> (with_reducible rfl)
                    case' r5_5 =>
                      try simp only [Act.put, List.setIfInBounds_toArray, List.set_cons_zero, List.set_cons_succ]
                    refine takeH (i := 6) (v := ?v5_6) rfl (by kernel_rfl) (by kernel_rfl) (by kernel_rfl) (fun _ _ _ h => h) (by rfl) ?y5_6 (O.sel [false, false, false, false, false, true]) ?r5_6
                    case y5_6 =>
                      intro WW hSw
                      (go_simp) <;> (with_reducible rfl)
                    case' r5_6 =>
                      try simp only [Act.put, List.setIfInBounds_toArray, List.set_cons_zero, List.set_cons_succ]
                    refine takeH (i := 7) (v := ?v5_7) rfl (by kernel_rfl) (by kernel_rfl) (by kernel_rfl) (fun _ _ _ h => h) (by rfl) ?y5_7 (O.sel [false, false, false, false, false, true]) ?r5_7
                    case y5_7 =>
                      intro WW hSw
                      replace hSw : Mem _ _ WW _ := hSw
                      have cs := hSw.facts
                      simp only [sel, factsP, cellsP, roomP, foots_cons, foots_nil, foots_append, foot_pt, ptb, ptb_mapA, foot_mapA, factsP_mapA, foot_bun, List.append_nil, List.nil_append, List.cons_append, List.nodup_cons, List.nodup_nil, List.mem_cons, List.not_mem_nil, List.mem_singleton, List.forall_mem_cons, not_or, not_false_eq_true, and_true, true_and, or_false, false_or, forall_eq_or_imp, forall_eq, implies_true, Nat.zero_add, Nat.reduceAdd, and_assoc, factsP_all, ptb_all, upd_all, Nat.mul_one, hdCells] at cs
                      try have v1 := VI.out _ hSw.fr
                      try simp only [cellsQ, roomP, and_assoc, and_true, true_and, Nat.add_zero, Nat.zero_add, Nat.reduceAdd, factsP, cellsP, roomP, foots_cons, foots_nil, foots_append, foot_pt, ptb, ptb_mapA, foot_mapA, factsP_mapA, foot_bun, List.append_nil, List.nil_append, List.cons_append, List.nodup_cons, List.nodup_nil, List.mem_cons, List.not_mem_nil, List.mem_singleton, List.forall_mem_cons, not_or, not_false_eq_true, and_true, true_and, or_false, false_or, forall_eq_or_imp, forall_eq, implies_true, Nat.zero_add, Nat.reduceAdd, and_assoc, factsP_all, ptb_all, upd_all, Nat.mul_one, hdCells] at v1
                      (go_simp) <;> (with_reducible rfl)
                    case' r5_7 =>
                      try simp only [Act.put, List.setIfInBounds_toArray, List.set_cons_zero, List.set_cons_succ]
                    refine wpAnyH_ready (rs := [5]) (by kernel_rfl) (by simp) ?_
                    refine consH rfl (fun K hK => ?_) AllReadyH.nil
                    have cs := O.facts
                    simp only [factsP, cellsP, roomP, foots_cons, foots_nil, foots_append, foot_pt, ptb, ptb_mapA, foot_mapA, factsP_mapA, foot_bun, List.append_nil, List.nil_append, List.cons_append, List.nodup_cons, List.nodup_nil, List.mem_cons, List.not_mem_nil, List.mem_singleton, List.forall_mem_cons, not_or, not_false_eq_true, and_true, true_and, or_false, false_or, forall_eq_or_imp, forall_eq, implies_true, Nat.zero_add, Nat.reduceAdd, and_assoc, factsP_all, ptb_all, upd_all, Nat.mul_one, hdCells] at cs
                    try have v1 := VI.out _ O.fr
                    try simp only [cellsQ, roomP, and_assoc, and_true, true_and, Nat.add_zero, Nat.zero_add, Nat.reduceAdd, factsP, cellsP, roomP, foots_cons, foots_nil, foots_append, foot_pt, ptb, ptb_mapA, foot_mapA, factsP_mapA, foot_bun, List.append_nil, List.nil_append, List.cons_append, List.nodup_cons, List.nodup_nil, List.mem_cons, List.not_mem_nil, List.mem_singleton, List.forall_mem_cons, not_or, not_false_eq_true, and_true, true_and, or_false, false_or, forall_eq_or_imp, forall_eq, implies_true, Nat.zero_add, Nat.reduceAdd, and_assoc, factsP_all, ptb_all, upd_all, Nat.mul_one, hdCells] at v1
                    go_simp
                    apply Mem.atCall
                    case h => repeat' (first | (with_reducible exact O) | (with_reducible apply Mem.drew) | (with_reducible apply Mem.drewN) | (with_reducible apply Mem.ext) | (with_reducible apply Mem.alloc) | (with_reducible apply Mem.setCell) | (simp only [ptb, ptb_upd, foots_cons, List.mem_cons, World.size_alloc, size_ext, World.size_setCell, true_or, or_true, eq_self_iff_true, ptb_all]))
                    intro w5_8 O'
                    (try clear O)
                    have O := O'
                    clear O'
                    (first | simp only [sel, rst, List.cons_append, List.nil_append, World.size_alloc, size_ext, World.size_setCell, size_setMap, World.size_drew, size_drewN, upd, List.set_cons_zero, List.set_cons_succ, if_true, if_false, reduceIte, not_false_eq_true, ne_lt0, ne_lt1, ne_lt2, ne_lt3, ne_lt4, upd_all, cs] at O | simp only [sel, rst, List.cons_append, List.nil_append, World.size_alloc, size_ext, World.size_setCell, size_setMap, World.size_drew, size_drewN, upd, List.set_cons_zero, List.set_cons_succ, if_true, if_false, reduceIte, not_false_eq_true, ne_lt0, ne_lt1, ne_lt2, ne_lt3, ne_lt4, upd_all] at O | skip)
                    (try clear cs)
                    (try clear v1)
                    (try clear v2)
                    (try clear v3)
                    refine (CPA.out _).mono ?_
                    rintro e w5_8' ⟨rfl, o⟩
                    replace O := O.callp [] o
                    clear o
                    simp only [put, List.cons_append, List.nil_append] at O
                    go_wp2_with fail
                    refine hK.out _ _ (O.sel [false, false, false, false, false, true]) (fun _ => ?_)
                    clear hK K
                    refine wpAnyH_ready (rs := [8]) (by kernel_rfl) (by simp) ?_
                    refine consH rfl (fun K hK => ?_) AllReadyH.nil
                    have cs := O.facts
                    simp only [factsP, cellsP, roomP, foots_cons, foots_nil, foots_append, foot_pt, ptb, ptb_mapA, foot_mapA, factsP_mapA, foot_bun, List.append_nil, List.nil_append, List.cons_append, List.nodup_cons, List.nodup_nil, List.mem_cons, List.not_mem_nil, List.mem_singleton, List.forall_mem_cons, not_or, not_false_eq_true, and_true, true_and, or_false, false_or, forall_eq_or_imp, forall_eq, implies_true, Nat.zero_add, Nat.reduceAdd, and_assoc, factsP_all, ptb_all, upd_all, Nat.mul_one, hdCells] at cs
                    try have v1 := VI.out _ O.fr
                    try simp only [cellsQ, roomP, and_assoc, and_true, true_and, Nat.add_zero, Nat.zero_add, Nat.reduceAdd, factsP, cellsP, roomP, foots_cons, foots_nil, foots_append, foot_pt, ptb, ptb_mapA, foot_mapA, factsP_mapA, foot_bun, List.append_nil, List.nil_append, List.cons_append, List.nodup_cons, List.nodup_nil, List.mem_cons, List.not_mem_nil, List.mem_singleton, List.forall_mem_cons, not_or, not_false_eq_true, and_true, true_and, or_false, false_or, forall_eq_or_imp, forall_eq, implies_true, Nat.zero_add, Nat.reduceAdd, and_assoc, factsP_all, ptb_all, upd_all, Nat.mul_one, hdCells] at v1
                    go_simp
                    apply Mem.atCall
                    case h => repeat' (first | (with_reducible exact O) | (with_reducible apply Mem.drew) | (with_reducible apply Mem.drewN) | (with_reducible apply Mem.ext) | (with_reducible apply Mem.alloc) | (with_reducible apply Mem.setCell) | (simp only [ptb, ptb_upd, foots_cons, List.mem_cons, World.size_alloc, size_ext, World.size_setCell, true_or, or_true, eq_self_iff_true, ptb_all]))
                    intro w5_9 O'
                    (try clear O)
                    have O := O'
                    clear O'
                    (first | simp only [sel, rst, List.cons_append, List.nil_append, World.size_alloc, size_ext, World.size_setCell, size_setMap, World.size_drew, size_drewN, upd, List.set_cons_zero, List.set_cons_succ, if_true, if_false, reduceIte, not_false_eq_true, ne_lt0, ne_lt1, ne_lt2, ne_lt3, ne_lt4, upd_all, cs] at O | simp only [sel, rst, List.cons_append, List.nil_append, World.size_alloc, size_ext, World.size_setCell, size_setMap, World.size_drew, size_drewN, upd, List.set_cons_zero, List.set_cons_succ, if_true, if_false, reduceIte, not_false_eq_true, ne_lt0, ne_lt1, ne_lt2, ne_lt3, ne_lt4, upd_all] at O | skip)
                    (try clear cs)
                    (try clear v1)
                    (try clear v2)
                    (try clear v3)
                    refine (CPM.out _).mono ?_
                    rintro e w5_9' ⟨rfl, o⟩
                    replace O := O.callp [] o
                    clear o
                    simp only [put, List.cons_append, List.nil_append] at O
                    go_wp2_with fail
                    refine hK.out _ _ (O.sel [false, false, false, false, false, true]) (fun _ => ?_)
                    clear hK K
                    refine wpAnyH_ready (rs := [9]) (by kernel_rfl) (by simp) ?_
                    refine consH rfl (fun K hK => ?_) AllReadyH.nil
                    have cs := O.facts
                    simp only [factsP, cellsP, roomP, foots_cons, foots_nil, foots_append, foot_pt, ptb, ptb_mapA, foot_mapA, factsP_mapA, foot_bun, List.append_nil, List.nil_append, List.cons_append, List.nodup_cons, List.nodup_nil, List.mem_cons, List.not_mem_nil, List.mem_singleton, List.forall_mem_cons, not_or, not_false_eq_true, and_true, true_and, or_false, false_or, forall_eq_or_imp, forall_eq, implies_true, Nat.zero_add, Nat.reduceAdd, and_assoc, factsP_all, ptb_all, upd_all, Nat.mul_one, hdCells] at cs
                    try have v1 := VI.out _ O.fr
                    try simp only [cellsQ, roomP, and_assoc, and_true, true_and, Nat.add_zero, Nat.zero_add, Nat.reduceAdd, factsP, cellsP, roomP, foots_cons, foots_nil, foots_append, foot_pt, ptb, ptb_mapA, foot_mapA, factsP_mapA, foot_bun, List.append_nil, List.nil_append, List.cons_append, List.nodup_cons, List.nodup_nil, List.mem_cons, List.not_mem_nil, List.mem_singleton, List.forall_mem_cons, not_or, not_false_eq_true, and_true, true_and, or_false, false_or, forall_eq_or_imp, forall_eq, implies_true, Nat.zero_add, Nat.reduceAdd, and_assoc, factsP_all, ptb_all, upd_all, Nat.mul_one, hdCells] at v1
                    go_simp
                    apply Mem.atCall
                    case h => repeat' (first | (with_reducible exact O) | (with_reducible apply Mem.drew) | (with_reducible apply Mem.drewN) | (with_reducible apply Mem.ext) | (with_reducible apply Mem.alloc) | (with_reducible apply Mem.setCell) | (simp only [ptb, ptb_upd, foots_cons, List.mem_cons, World.size_alloc, size_ext, World.size_setCell, true_or, or_true, eq_self_iff_true, ptb_all]))
                    intro w5_10 O'
                    (try clear O)
                    have O := O'
                    clear O'
                    (first | simp only [sel, rst, List.cons_append, List.nil_append, World.size_alloc, size_ext, World.size_setCell, size_setMap, World.size_drew, size_drewN, upd, List.set_cons_zero, List.set_cons_succ, if_true, if_false, reduceIte, not_false_eq_true, ne_lt0, ne_lt1, ne_lt2, ne_lt3, ne_lt4, upd_all, cs] at O | simp only [sel, rst, List.cons_append, List.nil_append, World.size_alloc, size_ext, World.size_setCell, size_setMap, World.size_drew, size_drewN, upd, List.set_cons_zero, List.set_cons_succ, if_true, if_false, reduceIte, not_false_eq_true, ne_lt0, ne_lt1, ne_lt2, ne_lt3, ne_lt4, upd_all] at O | skip)
                    (try clear cs)
                    (try clear v1)
                    (try clear v2)
                    (try clear v3)
                    refine (CP.out _ (O.pre [true, true, true]) (fun W' f => HXB.out W' (O.frOf [true, true, true] f))).mono ?_
                    rintro e w5_10' ⟨rfl, ws2, LA2, lc2, us2, hC2, hT2, o⟩
                    replace O := O.callp [true, true, true] o
                    clear o
                    simp only [put, List.cons_append, List.nil_append] at O
                    go_wp2_with fail
                    refine hK.out _ _ (O.sel [false, false, false, false, false, true]) (fun _ => ?_)
                    clear hK K
                    refine wpAnyH_done (by kernel_rfl) ?_ _
                    skip
                    have cs := O.facts
                    try simp only [factsP, cellsP, roomP, foots_cons, foots_nil, foots_append, foot_pt, ptb, ptb_mapA, foot_mapA, factsP_mapA, foot_bun, List.append_nil, List.nil_append, List.cons_append, List.nodup_cons, List.nodup_nil, List.mem_cons, List.not_mem_nil, List.mem_singleton, List.forall_mem_cons, not_or, not_false_eq_true, and_true, true_and, or_false, false_or, forall_eq_or_imp, forall_eq, implies_true, Nat.zero_add, Nat.reduceAdd, and_assoc, factsP_all, ptb_all, upd_all, Nat.mul_one, hdCells] at cs
                    go_wp2_with fail
                    go_meet
                    refine ⟨wd.prop ⟨tid, x.bucket, r, 0⟩ out m, own, ws2, pt, pm, us2, ms, LA2, lc2, by rw [HN.out]; exact hC2, hT2, HMn.out, HW.out.prop (by omega) ho m ⟨rfl, rfl, HIN.out⟩, ?_⟩
                    replace O := (((((O).front [false, false, false, false, true]).front [false, false, false, true]).front [false, false, false, false, true]).front [false, false, false, false, true]).front [false, false, false, false, true]
                    simp only [Tk.sel, rst, List.cons_append, List.nil_append] at O
                    replace O := O.sel [true, true, true, true, true]
                    simp only [Tk.sel] at O
                    simp only [wldL, txCells, HN.out]
                    exact O
                · by_cases h0 : vk = 0 ∧ x.inc r ≠ 0
                  · as_aux_lemma =>
                      obtain ⟨rfl, h0⟩ := h0
                      have VX := Lib.hid (fun W (h : Fr [] w W) => arg_view hbx hqx h)
                      simp only [itCells, cellsQ, Nat.add_zero, Nat.reduceAdd, and_true, Nat.zero_add] at VX
                      have VI := Lib.hid (fun W (h : Fr [] w W) => inc_cell hr (VX.out W h))
                      have HXB : Hid (∀ W, Fr [] w W → roomP bx W.heap.size ∧ W.cell? ⟨bx, ox + i * 8, none⟩ = some (.int .i64 x.bucket)) := Lib.hid (fun W f => bk_cell (VX.out W f))
                      have hinc : (x.inc r == 0) = false := by simpa using h0
                      have hinc2 : (x.inc r != 0) = true := by simpa using h0
                      have hi8 : i < 8 := by omega
                      have hi8i : (i : Int) < 8 := by omega
                      have c12 := HC.out.own i r hi8 hr
                      have PT := Lib.hid (fun (W : World) (L : List Asn) (O : Mem w [] W L) (hm : Asn.pt xb ws 83 ∈ L) => own_cell (ptCell O hm c12))
                      have HOW := Lib.hid (HW.out.own i x r hx hr)
                      skip
                      have hnd : (ts.map (·.bucket)).Nodup := right_nodup (TxR.right_parts HRT.out).2.2.2.2
                      have HND := Lib.hid hnd
                      clear hnd
                      have eA : (ByteArray.empty).toList.isEmpty = true := by simp [ByteArray.toList_eq]
                      have eB : (⟨#[]⟩ : ByteArray).toList.isEmpty = true := by simp [ByteArray.toList_eq]
                      have cs := O.facts
                      try simp only [factsP, cellsP, roomP, foots_cons, foots_nil, foots_append, foot_pt, ptb, ptb_mapA, foot_mapA, factsP_mapA, foot_bun, List.append_nil, List.nil_append, List.cons_append, List.nodup_cons, List.nodup_nil, List.mem_cons, List.not_mem_nil, List.mem_singleton, List.forall_mem_cons, not_or, not_false_eq_true, and_true, true_and, or_false, false_or, forall_eq_or_imp, forall_eq, implies_true, Nat.zero_add, Nat.reduceAdd, and_assoc, factsP_all, ptb_all, upd_all, Nat.mul_one, hdCells] at cs
                      try have v1 := VI.out _ O.fr
                      try simp only [cellsQ, roomP, and_assoc, and_true, true_and, Nat.add_zero, Nat.zero_add, Nat.reduceAdd, factsP, cellsP, roomP, foots_cons, foots_nil, foots_append, foot_pt, ptb, ptb_mapA, foot_mapA, factsP_mapA, foot_bun, List.append_nil, List.nil_append, List.cons_append, List.nodup_cons, List.nodup_nil, List.mem_cons, List.not_mem_nil, List.mem_singleton, List.forall_mem_cons, not_or, not_false_eq_true, and_true, true_and, or_false, false_or, forall_eq_or_imp, forall_eq, implies_true, Nat.zero_add, Nat.reduceAdd, and_assoc, factsP_all, ptb_all, upd_all, Nat.mul_one, hdCells] at v1
                      have v2 := PT.out _ _ O (by simp [Tk.sel])
                      try simp only [cellsQ, roomP, and_assoc, and_true, true_and, Nat.add_zero, Nat.zero_add, Nat.reduceAdd, factsP, cellsP, roomP, foots_cons, foots_nil, foots_append, foot_pt, ptb, ptb_mapA, foot_mapA, factsP_mapA, foot_bun, List.append_nil, List.nil_append, List.cons_append, List.nodup_cons, List.nodup_nil, List.mem_cons, List.not_mem_nil, List.mem_singleton, List.forall_mem_cons, not_or, not_false_eq_true, and_true, true_and, or_false, false_or, forall_eq_or_imp, forall_eq, implies_true, Nat.zero_add, Nat.reduceAdd, and_assoc, factsP_all, ptb_all, upd_all, Nat.mul_one, hdCells] at v2
                      go_upto_if 194 with fail
                      generalize hB : (own i r).toList.isEmpty = ie
                      have HB := Lib.hid hB
                      clear hB eA eB
                      go_cut [] (fun wc => AGv w [.pt vb [.int .i64 0, .int .i64 vi, .int .i64 vr, .int .i64 va, .int .i64 vm, .int .i64 vn, .bool vy] 87] (fun own => own i r ≠ .empty) xb tb (TxS.mk tid tcl t0 t1 t2 (some ⟨bx, ox, none⟩) tc ts) k d wc)
                      case first =>
                        as_aux_lemma =>
                          cases ie
                          case true =>
                            have hov : own i r = .empty := empty_of HB.out
                            have he : wd.own ⟨tid, x.bucket, (r : Int), 0⟩ = .empty := by rw [← hov, HOW.out]
                            have HOV := Lib.hid he
                            rw [hov] at PT
                            clear hov he
                            have cs := O.facts
                            try simp only [factsP, cellsP, roomP, foots_cons, foots_nil, foots_append, foot_pt, ptb, ptb_mapA, foot_mapA, factsP_mapA, foot_bun, List.append_nil, List.nil_append, List.cons_append, List.nodup_cons, List.nodup_nil, List.mem_cons, List.not_mem_nil, List.mem_singleton, List.forall_mem_cons, not_or, not_false_eq_true, and_true, true_and, or_false, false_or, forall_eq_or_imp, forall_eq, implies_true, Nat.zero_add, Nat.reduceAdd, and_assoc, factsP_all, ptb_all, upd_all, Nat.mul_one, hdCells] at cs
                            try have v1 := VI.out _ O.fr
                            try simp only [cellsQ, roomP, and_assoc, and_true, true_and, Nat.add_zero, Nat.zero_add, Nat.reduceAdd, factsP, cellsP, roomP, foots_cons, foots_nil, foots_append, foot_pt, ptb, ptb_mapA, foot_mapA, factsP_mapA, foot_bun, List.append_nil, List.nil_append, List.cons_append, List.nodup_cons, List.nodup_nil, List.mem_cons, List.not_mem_nil, List.mem_singleton, List.forall_mem_cons, not_or, not_false_eq_true, and_true, true_and, or_false, false_or, forall_eq_or_imp, forall_eq, implies_true, Nat.zero_add, Nat.reduceAdd, and_assoc, factsP_all, ptb_all, upd_all, Nat.mul_one, hdCells] at v1
                            have v2 := PT.out _ _ O (by simp [Tk.sel])
                            try simp only [cellsQ, roomP, and_assoc, and_true, true_and, Nat.add_zero, Nat.zero_add, Nat.reduceAdd, factsP, cellsP, roomP, foots_cons, foots_nil, foots_append, foot_pt, ptb, ptb_mapA, foot_mapA, factsP_mapA, foot_bun, List.append_nil, List.nil_append, List.cons_append, List.nodup_cons, List.nodup_nil, List.mem_cons, List.not_mem_nil, List.mem_singleton, List.forall_mem_cons, not_or, not_false_eq_true, and_true, true_and, or_false, false_or, forall_eq_or_imp, forall_eq, implies_true, Nat.zero_add, Nat.reduceAdd, and_assoc, factsP_all, ptb_all, upd_all, Nat.mul_one, hdCells] at v2
                            go_upto_region 28 with fail
                            first | apply Mem.atCall | apply Mem.atCode | apply Mem.atList
                            case h => repeat' (first | (with_reducible exact O) | (with_reducible apply Mem.drew) | (with_reducible apply Mem.drewN) | (with_reducible apply Mem.ext) | (with_reducible apply Mem.alloc) | (with_reducible apply Mem.setCell) | (simp only [ptb, ptb_upd, foots_cons, List.mem_cons, World.size_alloc, size_ext, World.size_setCell, true_or, or_true, eq_self_iff_true, ptb_all]))
                            case' k =>
                              intro z1 O'
                              (try clear O)
                              have O := O'
                              clear O'
                              (first | simp only [sel, rst, List.cons_append, List.nil_append, World.size_alloc, size_ext, World.size_setCell, size_setMap, World.size_drew, size_drewN, upd, List.set_cons_zero, List.set_cons_succ, if_true, if_false, reduceIte, not_false_eq_true, ne_lt0, ne_lt1, ne_lt2, ne_lt3, ne_lt4, upd_all, cs] at O | simp only [sel, rst, List.cons_append, List.nil_append, World.size_alloc, size_ext, World.size_setCell, size_setMap, World.size_drew, size_drewN, upd, List.set_cons_zero, List.set_cons_succ, if_true, if_false, reduceIte, not_false_eq_true, ne_lt0, ne_lt1, ne_lt2, ne_lt3, ne_lt4, upd_all] at O | skip)
                              (try clear cs)
                              (try clear v1)
                              (try clear v2)
                              (try clear v3)
                            have hC1 : Wc (ws.set (12 + i * 4 + r) (.string ⟨#[97]⟩)) tid (some ⟨bx, ox, none⟩) n tc pt pm (updO own i r ⟨#[97]⟩) wd.round LA wd.l.length lc := by
                              rw [Nat.add_assoc]
                              exact HC.out.setO hi8 hr _
                            obtain ⟨ws1, hws1⟩ : ∃ ws1, ws.set (12 + i * 4 + r) (.string ⟨#[97]⟩) = ws1 := ⟨_, rfl⟩
                            rw [hws1] at hC1 O
                            have HC1 := Lib.hid hC1
                            clear hws1 PT hC1
                            have c12 := HC1.out.own i r hi8 hr
                            rw [updO_same] at c12
                            have PT := Lib.hid (fun (W : World) (L : List Asn) (O : Mem w [] W L) (hm : Asn.pt xb ws1 83 ∈ L) => own_cell (ptCell O hm c12))
                            clear c12
                            skip
                            cases vy
                            · have cs := O.facts
                              try simp only [factsP, cellsP, roomP, foots_cons, foots_nil, foots_append, foot_pt, ptb, ptb_mapA, foot_mapA, factsP_mapA, foot_bun, List.append_nil, List.nil_append, List.cons_append, List.nodup_cons, List.nodup_nil, List.mem_cons, List.not_mem_nil, List.mem_singleton, List.forall_mem_cons, not_or, not_false_eq_true, and_true, true_and, or_false, false_or, forall_eq_or_imp, forall_eq, implies_true, Nat.zero_add, Nat.reduceAdd, and_assoc, factsP_all, ptb_all, upd_all, Nat.mul_one, hdCells] at cs
                              have v1 := PT.out _ _ O (by simp [Tk.sel])
                              try simp only [cellsQ, roomP, and_assoc, and_true, true_and, Nat.add_zero, Nat.zero_add, Nat.reduceAdd, factsP, cellsP, roomP, foots_cons, foots_nil, foots_append, foot_pt, ptb, ptb_mapA, foot_mapA, factsP_mapA, foot_bun, List.append_nil, List.nil_append, List.cons_append, List.nodup_cons, List.nodup_nil, List.mem_cons, List.not_mem_nil, List.mem_singleton, List.forall_mem_cons, not_or, not_false_eq_true, and_true, true_and, or_false, false_or, forall_eq_or_imp, forall_eq, implies_true, Nat.zero_add, Nat.reduceAdd, and_assoc, factsP_all, ptb_all, upd_all, Nat.mul_one, hdCells] at v1
                              go_wp2_with fail
                              go_meet
                              exact ⟨wd.set ⟨tid, x.bucket, (r : Int), 0⟩ ⟨#[97]⟩, updO own i r ⟨#[97]⟩, ws1, pt, pm, us, ms, LA, lc, by rw [HN.out]; exact HC1.out, HTb.out, HMn.out, HW.out.set HND.out hx hr HOV.out _, (by show updO own i r ⟨#[97]⟩ i r ≠ .empty; rw [updO_same]; exact ne97), by simp only [wldL, txCells, HN.out]; exact O⟩
                            · have cs := O.facts
                              try simp only [factsP, cellsP, roomP, foots_cons, foots_nil, foots_append, foot_pt, ptb, ptb_mapA, foot_mapA, factsP_mapA, foot_bun, List.append_nil, List.nil_append, List.cons_append, List.nodup_cons, List.nodup_nil, List.mem_cons, List.not_mem_nil, List.mem_singleton, List.forall_mem_cons, not_or, not_false_eq_true, and_true, true_and, or_false, false_or, forall_eq_or_imp, forall_eq, implies_true, Nat.zero_add, Nat.reduceAdd, and_assoc, factsP_all, ptb_all, upd_all, Nat.mul_one, hdCells] at cs
                              have v1 := PT.out _ _ O (by simp [Tk.sel])
                              try simp only [cellsQ, roomP, and_assoc, and_true, true_and, Nat.add_zero, Nat.zero_add, Nat.reduceAdd, factsP, cellsP, roomP, foots_cons, foots_nil, foots_append, foot_pt, ptb, ptb_mapA, foot_mapA, factsP_mapA, foot_bun, List.append_nil, List.nil_append, List.cons_append, List.nodup_cons, List.nodup_nil, List.mem_cons, List.not_mem_nil, List.mem_singleton, List.forall_mem_cons, not_or, not_false_eq_true, and_true, true_and, or_false, false_or, forall_eq_or_imp, forall_eq, implies_true, Nat.zero_add, Nat.reduceAdd, and_assoc, factsP_all, ptb_all, upd_all, Nat.mul_one, hdCells] at v1
                              go_wp2_with fail
                              go_meet
                              have O2 := Mem.set_at (j := 12 + i * 4 + r) (v := .string ⟨#[112]⟩) [.pt vb [.int .i64 0, .int .i64 vi, .int .i64 vr, .int .i64 va, .int .i64 vm, .int .i64 vn, .bool true] 87] O
                              have hC2 : Wc (ws1.set (12 + i * 4 + r) (.string ⟨#[112]⟩)) tid (some ⟨bx, ox, none⟩) n tc pt pm (updO own i r ⟨#[112]⟩) wd.round LA wd.l.length lc := by
                                rw [Nat.add_assoc, ← updO_updO own i r ⟨#[97]⟩]
                                exact HC1.out.setO hi8 hr _
                              exact ⟨wd.set ⟨tid, x.bucket, (r : Int), 0⟩ ⟨#[112]⟩, updO own i r ⟨#[112]⟩, _, pt, pm, us, ms, LA, lc, by rw [HN.out]; exact hC2, HTb.out, HMn.out, HW.out.set HND.out hx hr HOV.out _, (by show updO own i r ⟨#[112]⟩ i r ≠ .empty; rw [updO_same]; exact ne112), by simp only [wldL, txCells, HN.out]; exact O2⟩
                          case false =>
                            have hov : own i r ≠ .empty := fun h => by
                              have := HB.out
                              rw [h] at this
                              simp [ByteArray.toList_eq] at this
                            have HOV := Lib.hid hov
                            clear hov
                            have cs := O.facts
                            try simp only [factsP, cellsP, roomP, foots_cons, foots_nil, foots_append, foot_pt, ptb, ptb_mapA, foot_mapA, factsP_mapA, foot_bun, List.append_nil, List.nil_append, List.cons_append, List.nodup_cons, List.nodup_nil, List.mem_cons, List.not_mem_nil, List.mem_singleton, List.forall_mem_cons, not_or, not_false_eq_true, and_true, true_and, or_false, false_or, forall_eq_or_imp, forall_eq, implies_true, Nat.zero_add, Nat.reduceAdd, and_assoc, factsP_all, ptb_all, upd_all, Nat.mul_one, hdCells] at cs
                            have v1 := PT.out _ _ O (by simp [Tk.sel])
                            try simp only [cellsQ, roomP, and_assoc, and_true, true_and, Nat.add_zero, Nat.zero_add, Nat.reduceAdd, factsP, cellsP, roomP, foots_cons, foots_nil, foots_append, foot_pt, ptb, ptb_mapA, foot_mapA, factsP_mapA, foot_bun, List.append_nil, List.nil_append, List.cons_append, List.nodup_cons, List.nodup_nil, List.mem_cons, List.not_mem_nil, List.mem_singleton, List.forall_mem_cons, not_or, not_false_eq_true, and_true, true_and, or_false, false_or, forall_eq_or_imp, forall_eq, implies_true, Nat.zero_add, Nat.reduceAdd, and_assoc, factsP_all, ptb_all, upd_all, Nat.mul_one, hdCells] at v1
                            go_wp2_with fail
                            go_meet
                            exact ⟨wd, own, ws, pt, pm, us, ms, LA, lc, by rw [HN.out]; exact HC.out, HTb.out, HMn.out, HW.out, HOV.out, by simp only [wldL, txCells, HN.out]; exact O⟩
                      case rest =>
                        as_aux_lemma =>
                          clear O HW HC HTb HMn PT HOW
                          obtain ⟨wd, own, ws, pt, pm, us, ms, LA, lc, hC, hT, hM, hW, hne, O⟩ := hcut
                          have HC := Lib.hid (show Wc ws tid (some ⟨bx, ox, none⟩) n tc pt pm own wd.round LA wd.l.length lc by rw [← HN.out]; exact hC)
                          have HTb := Lib.hid hT
                          have HMn := Lib.hid hM
                          have HW := Lib.hid hW
                          clear hC hT hM hW
                          simp only [wldL, txCells, HN.out, List.cons_append, List.nil_append] at O
                          have hl6 : wd.l.length ≤ 600 := by have := HW.out.hl; omega
                          have ha : pickN va 3 < 3 := pickN_lt (by omega)
                          have CPA := Lib.hid (fun W => (q_pick va 3 hva (by omega) (by omega) W : Calls Try.prog 11 #[.int .i64 va, .int .i64 3] W _))
                          generalize pickN va 3 = a at CPA ha
                          have c12 := HC.out.own i r hi8 hr
                          have how := HW.out.own i x r hx hr
                          simp only at how
                          rw [how] at c12 hne
                          obtain ⟨T, hTk, hTp, hTm⟩ := HTb.out.get ha
                          have hset := HTb.out.set hTk
                          have HTT := Lib.hid hTk
                          obtain ⟨tbk, mbk, m⟩ := T
                          simp only at hTm hTp hset
                          have hin := inst_ok (t := (TxS.mk tid tcl t0 t1 t2 (some ⟨bx, ox, none⟩) tc ts)) HRT.out HT.out.wid hx hr
                          have hAW := HW.out.vote (by omega) hne ha hin
                          have CA := Lib.hid (fun W hW hxx => w_accept W xb ws tid bx ox n tc pt pm own wd.round LA lc wd.l HC.out tbk mbk m hW i r a x.bucket noB (wd.own ⟨tid, x.bucket, (r : Int), 0⟩) hxx hi ha hTp hin.2.2 (by omega))
                          simp only [Ballot.val, noB] at CA
                          have PT := Lib.hid (fun (W : World) (L : List Asn) (O : Mem w [] W L) (hm : Asn.pt xb ws 83 ∈ L) => own_cell (ptCell O hm c12))
                          have HAW := Lib.hid hAW
                          have HSET := Lib.hid hset
                          have HTM := Lib.hid hTm
                          clear hset hTk hTp hin hAW hne how c12 hTm
                          replace O := ((((((O).front [true]).front [false, false, false, false, false, true]).front [false, false, false, false, true]).front [false, false, false, false, false, true]).front [false, false, false, false, true]).front [false, false, false, false, false, true]
                          simp only [Tk.sel, rst, List.cons_append, List.nil_append] at O
                          replace O := O.sel [true, true, true, true, true, true]
                          simp only [Tk.sel] at O
                          replace O := O.famTake HTT.out
                          simp only [tabF] at O
                          replace O := (((((((O).front [false, false, false, false, false, false, true]).front [false, false, false, false, false, false, true]).front [false, false, false, false, false, false, true]).front [false, false, false, false, true]).front [false, false, false, false, false, false, true]).front [false, false, false, false, false, true]).front [false, false, false, false, false, false, true]
                          simp only [Tk.sel, rst, List.cons_append, List.nil_append] at O
                          replace O := O.sel [true, true, true, true, true, true, true]
                          simp only [Tk.sel] at O
                          skip
                          have cs := O.facts
                          try simp only [factsP, cellsP, roomP, foots_cons, foots_nil, foots_append, foot_pt, ptb, ptb_mapA, foot_mapA, factsP_mapA, foot_bun, List.append_nil, List.nil_append, List.cons_append, List.nodup_cons, List.nodup_nil, List.mem_cons, List.not_mem_nil, List.mem_singleton, List.forall_mem_cons, not_or, not_false_eq_true, and_true, true_and, or_false, false_or, forall_eq_or_imp, forall_eq, implies_true, Nat.zero_add, Nat.reduceAdd, and_assoc, factsP_all, ptb_all, upd_all, Nat.mul_one, hdCells] at cs
                          try have v1 := PT.out _ _ O (.head _)
                          try simp only [cellsQ, roomP, and_assoc, and_true, true_and, Nat.add_zero, Nat.zero_add, Nat.reduceAdd, factsP, cellsP, roomP, foots_cons, foots_nil, foots_append, foot_pt, ptb, ptb_mapA, foot_mapA, factsP_mapA, foot_bun, List.append_nil, List.nil_append, List.cons_append, List.nodup_cons, List.nodup_nil, List.mem_cons, List.not_mem_nil, List.mem_singleton, List.forall_mem_cons, not_or, not_false_eq_true, and_true, true_and, or_false, false_or, forall_eq_or_imp, forall_eq, implies_true, Nat.zero_add, Nat.reduceAdd, and_assoc, factsP_all, ptb_all, upd_all, Nat.mul_one, hdCells] at v1
                          go_upto_region 30 with fail
                          apply region_held_mem [false, false, false, false, false, false, true] (by kernel_rfl)
                          case O => repeat' (first | (with_reducible exact O) | (with_reducible apply Mem.drew) | (with_reducible apply Mem.drewN) | (with_reducible apply Mem.ext) | (with_reducible apply Mem.alloc) | (with_reducible apply Mem.setCell) | (simp only [ptb, ptb_upd, foots_cons, List.mem_cons, World.size_alloc, size_ext, World.size_setCell, true_or, or_true, eq_self_iff_true, ptb_all]))
                          case' h =>
                            intro wr6 O'
                            (try clear O)
                            have O := O'
                            clear O'
                            (first | simp only [sel, rst, List.cons_append, List.nil_append, World.size_alloc, size_ext, World.size_setCell, size_setMap, World.size_drew, size_drewN, upd, List.set_cons_zero, List.set_cons_succ, if_true, if_false, reduceIte, not_false_eq_true, ne_lt0, ne_lt1, ne_lt2, ne_lt3, ne_lt4, upd_all, cs] at O | simp only [sel, rst, List.cons_append, List.nil_append, World.size_alloc, size_ext, World.size_setCell, size_setMap, World.size_drew, size_drewN, upd, List.set_cons_zero, List.set_cons_succ, if_true, if_false, reduceIte, not_false_eq_true, ne_lt0, ne_lt1, ne_lt2, ne_lt3, ne_lt4, upd_all] at O | skip)
                            (try clear cs)
                            (try clear v1)
                            (try clear v2)
                            (try clear v3)
                          refine takeH (i := 0) (v := ?v6_1) rfl (by kernel_rfl) (by kernel_rfl) (by kernel_rfl) (fun _ _ _ h => h) (by rfl) ?y6_1 (O.sel [false, false, false, false, false, false, true]) ?r6_1
                          case y6_1 =>
                            intro WW hSw
                            (go_simp) <;> (with_reducible rfl)
                          case' r6_1 =>
                            try simp only [Act.put, List.setIfInBounds_toArray, List.set_cons_zero, List.set_cons_succ]
                          refine takeH (i := 1) (v := ?v6_2) rfl (by kernel_rfl) (by kernel_rfl) (by kernel_rfl) (fun _ _ _ h => h) (by rfl) ?y6_2 (O.sel [false, false, false, false, false, false, true]) ?r6_2
                          case y6_2 =>
                            intro WW hSw
                            (go_simp) <;> (with_reducible rfl)
                          case' r6_2 =>
                            try simp only [Act.put, List.setIfInBounds_toArray, List.set_cons_zero, List.set_cons_succ]
                          refine takeH (i := 2) (v := ?v6_3) rfl (by kernel_rfl) (by kernel_rfl) (by kernel_rfl) (fun _ _ _ h => h) (by rfl) ?y6_3 (O.sel [false, false, false, false, false, false, true]) ?r6_3
                          case y6_3 =>
                            intro WW hSw
                            (go_simp) <;> (with_reducible rfl)
                          case' r6_3 =>
                            try simp only [Act.put, List.setIfInBounds_toArray, List.set_cons_zero, List.set_cons_succ]
                          refine takeH (i := 3) (v := ?v6_4) rfl (by kernel_rfl) (by kernel_rfl) (by kernel_rfl) (fun _ _ _ h => h) (by rfl) ?y6_4 (O.sel [false, false, false, false, false, false, true]) ?r6_4
                          case y6_4 =>
                            intro WW hSw
                            (go_simp) <;> (with_reducible rfl)
                          case' r6_4 =>
                            try simp only [Act.put, List.setIfInBounds_toArray, List.set_cons_zero, List.set_cons_succ]
                          refine takeH (i := 4) (v := ?v6_5) rfl (by kernel_rfl) (by kernel_rfl) (by kernel_rfl) (fun _ _ _ h => h) (by rfl) ?y6_5 (O.sel [false, false, false, false, false, false, true]) ?r6_5
                          case y6_5 =>
                            intro WW hSw
                            replace hSw : Mem _ _ WW _ := hSw
                            have cs := hSw.facts
                            simp only [sel, factsP, cellsP, roomP, foots_cons, foots_nil, foots_append, foot_pt, ptb, ptb_mapA, foot_mapA, factsP_mapA, foot_bun, List.append_nil, List.nil_append, List.cons_append, List.nodup_cons, List.nodup_nil, List.mem_cons, List.not_mem_nil, List.mem_singleton, List.forall_mem_cons, not_or, not_false_eq_true, and_true, true_and, or_false, false_or, forall_eq_or_imp, forall_eq, implies_true, Nat.zero_add, Nat.reduceAdd, and_assoc, factsP_all, ptb_all, upd_all, Nat.mul_one, hdCells] at cs
                            try have v1 := PT.out _ _ hSw (.head _)
                            try simp only [cellsQ, roomP, and_assoc, and_true, true_and, Nat.add_zero, Nat.zero_add, Nat.reduceAdd, factsP, cellsP, roomP, foots_cons, foots_nil, foots_append, foot_pt, ptb, ptb_mapA, foot_mapA, factsP_mapA, foot_bun, List.append_nil, List.nil_append, List.cons_append, List.nodup_cons, List.nodup_nil, List.mem_cons, List.not_mem_nil, List.mem_singleton, List.forall_mem_cons, not_or, not_false_eq_true, and_true, true_and, or_false, false_or, forall_eq_or_imp, forall_eq, implies_true, Nat.zero_add, Nat.reduceAdd, and_assoc, factsP_all, ptb_all, upd_all, Nat.mul_one, hdCells] at v1
                            (go_simp) <;> (with_reducible rfl)
                          case' r6_5 =>
                            try simp only [Act.put, List.setIfInBounds_toArray, List.set_cons_zero, List.set_cons_succ]
                          refine takeH (i := 6) (v := ?v6_6) rfl (by kernel_rfl) (by kernel_rfl) (by kernel_rfl) (fun _ _ _ h => h) (by rfl) ?y6_6 (O.sel [false, false, false, false, false, false, true]) ?r6_6
                          case y6_6 =>
                            intro WW hSw
                            (go_simp) <;> (with_reducible rfl)
                          case' r6_6 =>
                            try simp only [Act.put, List.setIfInBounds_toArray, List.set_cons_zero, List.set_cons_succ]
                          refine takeH (i := 7) (v := ?v6_7) rfl (by kernel_rfl) (by kernel_rfl) (by kernel_rfl) (fun _ _ _ h => h) (by rfl) ?y6_7 (O.sel [false, false, false, false, false, false, true]) ?r6_7
                          case y6_7 =>
                            intro WW hSw
                            (go_simp) <;> (with_reducible rfl)
                          case' r6_7 =>
                            try simp only [Act.put, List.setIfInBounds_toArray, List.set_cons_zero, List.set_cons_succ]
                          refine takeH (i := 8) (v := ?v6_8) rfl (by kernel_rfl) (by kernel_rfl) (by kernel_rfl) (fun _ _ _ h => h) (by rfl) ?y6_8 (O.sel [false, false, false, false, false, false, true]) ?r6_8
                          case y6_8 =>
                            intro WW hSw
                            (go_simp) <;> (with_reducible rfl)
                          case' r6_8 =>
                            try simp only [Act.put, List.setIfInBounds_toArray, List.set_cons_zero, List.set_cons_succ]
                          refine takeH (i := 9) (v := ?v6_9) rfl (by kernel_rfl) (by kernel_rfl) (by kernel_rfl) (fun _ _ _ h => h) (by rfl) ?y6_9 (O.sel [false, false, false, false, false, false, true]) ?r6_9
                          case y6_9 =>
                            intro WW hSw
                            (go_simp) <;> (with_reducible rfl)
                          case' r6_9 =>
                            try simp only [Act.put, List.setIfInBounds_toArray, List.set_cons_zero, List.set_cons_succ]
                          refine takeH (i := 10) (v := ?v6_10) rfl (by kernel_rfl) (by kernel_rfl) (by kernel_rfl) (fun _ _ _ h => h) (by rfl) ?y6_10 (O.sel [false, false, false, false, false, false, true]) ?r6_10
                          case y6_10 =>
                            intro WW hSw
                            (go_simp) <;> (with_reducible rfl)
                          case' r6_10 =>
                            try simp only [Act.put, List.setIfInBounds_toArray, List.set_cons_zero, List.set_cons_succ]
                          refine takeH (i := 11) (v := ?v6_11) rfl (by kernel_rfl) (by kernel_rfl) (by kernel_rfl) (fun _ _ _ h => h) (by rfl) ?y6_11 (O.sel [false, false, false, false, false, false, true]) ?r6_11
                          case y6_11 =>
                            intro WW hSw
                            (go_simp) <;> (with_reducible rfl)
                          case' r6_11 =>
                            try simp only [Act.put, List.setIfInBounds_toArray, List.set_cons_zero, List.set_cons_succ]
                          refine takeH (i := 12) (v := ?v6_12) rfl (by kernel_rfl) (by kernel_rfl) (by kernel_rfl) (fun _ _ _ h => h) (by rfl) ?y6_12 (O.sel [false, false, false, false, false, false, true]) ?r6_12
                          case y6_12 =>
                            intro WW hSw
                            replace hSw : Mem _ _ WW _ := hSw
                            have cs := hSw.facts
                            simp only [sel, factsP, cellsP, roomP, foots_cons, foots_nil, foots_append, foot_pt, ptb, ptb_mapA, foot_mapA, factsP_mapA, foot_bun, List.append_nil, List.nil_append, List.cons_append, List.nodup_cons, List.nodup_nil, List.mem_cons, List.not_mem_nil, List.mem_singleton, List.forall_mem_cons, not_or, not_false_eq_true, and_true, true_and, or_false, false_or, forall_eq_or_imp, forall_eq, implies_true, Nat.zero_add, Nat.reduceAdd, and_assoc, factsP_all, ptb_all, upd_all, Nat.mul_one, hdCells] at cs
                            try have v1 := PT.out _ _ hSw (.head _)
                            try simp only [cellsQ, roomP, and_assoc, and_true, true_and, Nat.add_zero, Nat.zero_add, Nat.reduceAdd, factsP, cellsP, roomP, foots_cons, foots_nil, foots_append, foot_pt, ptb, ptb_mapA, foot_mapA, factsP_mapA, foot_bun, List.append_nil, List.nil_append, List.cons_append, List.nodup_cons, List.nodup_nil, List.mem_cons, List.not_mem_nil, List.mem_singleton, List.forall_mem_cons, not_or, not_false_eq_true, and_true, true_and, or_false, false_or, forall_eq_or_imp, forall_eq, implies_true, Nat.zero_add, Nat.reduceAdd, and_assoc, factsP_all, ptb_all, upd_all, Nat.mul_one, hdCells] at v1
                            (go_simp) <;> (with_reducible rfl)
                          case' r6_12 =>
                            try simp only [Act.put, List.setIfInBounds_toArray, List.set_cons_zero, List.set_cons_succ]
                          refine takeH (i := 13) (v := ?v6_13) rfl (by kernel_rfl) (by kernel_rfl) (by kernel_rfl) (fun _ _ _ h => h) (by rfl) ?y6_13 (O.sel [false, false, false, false, false, false, true]) ?r6_13
                          case y6_13 =>
                            intro WW hSw
                            replace hSw : Mem _ _ WW _ := hSw
                            have cs := hSw.facts
                            simp only [sel, factsP, cellsP, roomP, foots_cons, foots_nil, foots_append, foot_pt, ptb, ptb_mapA, foot_mapA, factsP_mapA, foot_bun, List.append_nil, List.nil_append, List.cons_append, List.nodup_cons, List.nodup_nil, List.mem_cons, List.not_mem_nil, List.mem_singleton, List.forall_mem_cons, not_or, not_false_eq_true, and_true, true_and, or_false, false_or, forall_eq_or_imp, forall_eq, implies_true, Nat.zero_add, Nat.reduceAdd, and_assoc, factsP_all, ptb_all, upd_all, Nat.mul_one, hdCells] at cs
                            try have v1 := PT.out _ _ hSw (.head _)
                            try simp only [cellsQ, roomP, and_assoc, and_true, true_and, Nat.add_zero, Nat.zero_add, Nat.reduceAdd, factsP, cellsP, roomP, foots_cons, foots_nil, foots_append, foot_pt, ptb, ptb_mapA, foot_mapA, factsP_mapA, foot_bun, List.append_nil, List.nil_append, List.cons_append, List.nodup_cons, List.nodup_nil, List.mem_cons, List.not_mem_nil, List.mem_singleton, List.forall_mem_cons, not_or, not_false_eq_true, and_true, true_and, or_false, false_or, forall_eq_or_imp, forall_eq, implies_true, Nat.zero_add, Nat.reduceAdd, and_assoc, factsP_all, ptb_all, upd_all, Nat.mul_one, hdCells] at v1
                            (go_simp) <;> (with_reducible rfl)
                          case' r6_13 =>
                            try simp only [Act.put, List.setIfInBounds_toArray, List.set_cons_zero, List.set_cons_succ]
                          apply cutT0
                          case main =>
                            intro hT6_0
                            refine wpAnyH_ready (rs := [5, 14]) (by kernel_rfl) (by simp) ?_
                            refine consH rfl (fun K hK => ?_) ?_
                            · have cs := O.facts
                              simp only [factsP, cellsP, roomP, foots_cons, foots_nil, foots_append, foot_pt, ptb, ptb_mapA, foot_mapA, factsP_mapA, foot_bun, List.append_nil, List.nil_append, List.cons_append, List.nodup_cons, List.nodup_nil, List.mem_cons, List.not_mem_nil, List.mem_singleton, List.forall_mem_cons, not_or, not_false_eq_true, and_true, true_and, or_false, false_or, forall_eq_or_imp, forall_eq, implies_true, Nat.zero_add, Nat.reduceAdd, and_assoc, factsP_all, ptb_all, upd_all, Nat.mul_one, hdCells] at cs
                              try have v1 := PT.out _ _ O (.head _)
                              try simp only [cellsQ, roomP, and_assoc, and_true, true_and, Nat.add_zero, Nat.zero_add, Nat.reduceAdd, factsP, cellsP, roomP, foots_cons, foots_nil, foots_append, foot_pt, ptb, ptb_mapA, foot_mapA, factsP_mapA, foot_bun, List.append_nil, List.nil_append, List.cons_append, List.nodup_cons, List.nodup_nil, List.mem_cons, List.not_mem_nil, List.mem_singleton, List.forall_mem_cons, not_or, not_false_eq_true, and_true, true_and, or_false, false_or, forall_eq_or_imp, forall_eq, implies_true, Nat.zero_add, Nat.reduceAdd, and_assoc, factsP_all, ptb_all, upd_all, Nat.mul_one, hdCells] at v1
                              go_simp
                              apply Mem.atCall
                              case h => repeat' (first | (with_reducible exact O) | (with_reducible apply Mem.drew) | (with_reducible apply Mem.drewN) | (with_reducible apply Mem.ext) | (with_reducible apply Mem.alloc) | (with_reducible apply Mem.setCell) | (simp only [ptb, ptb_upd, foots_cons, List.mem_cons, World.size_alloc, size_ext, World.size_setCell, true_or, or_true, eq_self_iff_true, ptb_all]))
                              intro w6_14 O'
                              (try clear O)
                              have O := O'
                              clear O'
                              (first | simp only [sel, rst, List.cons_append, List.nil_append, World.size_alloc, size_ext, World.size_setCell, size_setMap, World.size_drew, size_drewN, upd, List.set_cons_zero, List.set_cons_succ, if_true, if_false, reduceIte, not_false_eq_true, ne_lt0, ne_lt1, ne_lt2, ne_lt3, ne_lt4, upd_all, cs] at O | simp only [sel, rst, List.cons_append, List.nil_append, World.size_alloc, size_ext, World.size_setCell, size_setMap, World.size_drew, size_drewN, upd, List.set_cons_zero, List.set_cons_succ, if_true, if_false, reduceIte, not_false_eq_true, ne_lt0, ne_lt1, ne_lt2, ne_lt3, ne_lt4, upd_all] at O | skip)
                              (try clear cs)
                              (try clear v1)
                              (try clear v2)
                              (try clear v3)
                              refine (CPA.out _).mono ?_
                              rintro e w6_14' ⟨rfl, o⟩
                              replace O := O.callp [] o
                              clear o
                              simp only [put, List.cons_append, List.nil_append] at O
                              go_wp2_with fail
                              refine hK.out _ _ (O.sel [false, false, false, false, false, false, true]) (fun _ => ?_)
                              clear hK K
                              refine wpAnyH_ready (rs := [14]) (by kernel_rfl) (by simp) ?_
                              refine consH rfl (fun K hK => ?_) AllReadyH.nil
                              have cs := O.facts
                              simp only [factsP, cellsP, roomP, foots_cons, foots_nil, foots_append, foot_pt, ptb, ptb_mapA, foot_mapA, factsP_mapA, foot_bun, List.append_nil, List.nil_append, List.cons_append, List.nodup_cons, List.nodup_nil, List.mem_cons, List.not_mem_nil, List.mem_singleton, List.forall_mem_cons, not_or, not_false_eq_true, and_true, true_and, or_false, false_or, forall_eq_or_imp, forall_eq, implies_true, Nat.zero_add, Nat.reduceAdd, and_assoc, factsP_all, ptb_all, upd_all, Nat.mul_one, hdCells] at cs
                              try have v1 := PT.out _ _ O (.head _)
                              try simp only [cellsQ, roomP, and_assoc, and_true, true_and, Nat.add_zero, Nat.zero_add, Nat.reduceAdd, factsP, cellsP, roomP, foots_cons, foots_nil, foots_append, foot_pt, ptb, ptb_mapA, foot_mapA, factsP_mapA, foot_bun, List.append_nil, List.nil_append, List.cons_append, List.nodup_cons, List.nodup_nil, List.mem_cons, List.not_mem_nil, List.mem_singleton, List.forall_mem_cons, not_or, not_false_eq_true, and_true, true_and, or_false, false_or, forall_eq_or_imp, forall_eq, implies_true, Nat.zero_add, Nat.reduceAdd, and_assoc, factsP_all, ptb_all, upd_all, Nat.mul_one, hdCells] at v1
                              go_simp
                              apply Mem.atK
                              case h => repeat' (first | (with_reducible exact O) | (with_reducible apply Mem.drew) | (with_reducible apply Mem.drewN) | (with_reducible apply Mem.ext) | (with_reducible apply Mem.alloc) | (with_reducible apply Mem.setCell) | (simp only [ptb, ptb_upd, foots_cons, List.mem_cons, World.size_alloc, size_ext, World.size_setCell, true_or, or_true, eq_self_iff_true, ptb_all]))
                              intro w6_15 O'
                              (try clear O)
                              have O := O'
                              clear O'
                              (first | simp only [sel, rst, List.cons_append, List.nil_append, World.size_alloc, size_ext, World.size_setCell, size_setMap, World.size_drew, size_drewN, upd, List.set_cons_zero, List.set_cons_succ, if_true, if_false, reduceIte, not_false_eq_true, ne_lt0, ne_lt1, ne_lt2, ne_lt3, ne_lt4, upd_all, cs] at O | simp only [sel, rst, List.cons_append, List.nil_append, World.size_alloc, size_ext, World.size_setCell, size_setMap, World.size_drew, size_drewN, upd, List.set_cons_zero, List.set_cons_succ, if_true, if_false, reduceIte, not_false_eq_true, ne_lt0, ne_lt1, ne_lt2, ne_lt3, ne_lt4, upd_all] at O | skip)
                              (try clear cs)
                              (try clear v1)
                              (try clear v2)
                              (try clear v3)
                              refine hK.out _ _ (O.sel [false, false, false, false, false, false, true]) (fun _ => ?_)
                              clear hK K
                              revert O
                              exact hT6_0.out  w6_15
                            refine consH rfl (fun K hK => ?_) ?_
                            · have cs := O.facts
                              simp only [factsP, cellsP, roomP, foots_cons, foots_nil, foots_append, foot_pt, ptb, ptb_mapA, foot_mapA, factsP_mapA, foot_bun, List.append_nil, List.nil_append, List.cons_append, List.nodup_cons, List.nodup_nil, List.mem_cons, List.not_mem_nil, List.mem_singleton, List.forall_mem_cons, not_or, not_false_eq_true, and_true, true_and, or_false, false_or, forall_eq_or_imp, forall_eq, implies_true, Nat.zero_add, Nat.reduceAdd, and_assoc, factsP_all, ptb_all, upd_all, Nat.mul_one, hdCells] at cs
                              try have v1 := PT.out _ _ O (.head _)
                              try simp only [cellsQ, roomP, and_assoc, and_true, true_and, Nat.add_zero, Nat.zero_add, Nat.reduceAdd, factsP, cellsP, roomP, foots_cons, foots_nil, foots_append, foot_pt, ptb, ptb_mapA, foot_mapA, factsP_mapA, foot_bun, List.append_nil, List.nil_append, List.cons_append, List.nodup_cons, List.nodup_nil, List.mem_cons, List.not_mem_nil, List.mem_singleton, List.forall_mem_cons, not_or, not_false_eq_true, and_true, true_and, or_false, false_or, forall_eq_or_imp, forall_eq, implies_true, Nat.zero_add, Nat.reduceAdd, and_assoc, factsP_all, ptb_all, upd_all, Nat.mul_one, hdCells] at v1
                              go_simp
                              apply Mem.atK
                              case h => repeat' (first | (with_reducible exact O) | (with_reducible apply Mem.drew) | (with_reducible apply Mem.drewN) | (with_reducible apply Mem.ext) | (with_reducible apply Mem.alloc) | (with_reducible apply Mem.setCell) | (simp only [ptb, ptb_upd, foots_cons, List.mem_cons, World.size_alloc, size_ext, World.size_setCell, true_or, or_true, eq_self_iff_true, ptb_all]))
                              intro w6_16 O'
                              (try clear O)
                              have O := O'
                              clear O'
                              (first | simp only [sel, rst, List.cons_append, List.nil_append, World.size_alloc, size_ext, World.size_setCell, size_setMap, World.size_drew, size_drewN, upd, List.set_cons_zero, List.set_cons_succ, if_true, if_false, reduceIte, not_false_eq_true, ne_lt0, ne_lt1, ne_lt2, ne_lt3, ne_lt4, upd_all, cs] at O | simp only [sel, rst, List.cons_append, List.nil_append, World.size_alloc, size_ext, World.size_setCell, size_setMap, World.size_drew, size_drewN, upd, List.set_cons_zero, List.set_cons_succ, if_true, if_false, reduceIte, not_false_eq_true, ne_lt0, ne_lt1, ne_lt2, ne_lt3, ne_lt4, upd_all] at O | skip)
                              (try clear cs)
                              (try clear v1)
                              (try clear v2)
                              (try clear v3)
                              refine hK.out _ _ (O.sel [false, false, false, false, false, false, true]) (fun _ => ?_)
                              clear hK K
                              refine wpAnyH_ready (rs := [5]) (by kernel_rfl) (by simp) ?_
                              refine consH rfl (fun K hK => ?_) AllReadyH.nil
                              have cs := O.facts
                              simp only [factsP, cellsP, roomP, foots_cons, foots_nil, foots_append, foot_pt, ptb, ptb_mapA, foot_mapA, factsP_mapA, foot_bun, List.append_nil, List.nil_append, List.cons_append, List.nodup_cons, List.nodup_nil, List.mem_cons, List.not_mem_nil, List.mem_singleton, List.forall_mem_cons, not_or, not_false_eq_true, and_true, true_and, or_false, false_or, forall_eq_or_imp, forall_eq, implies_true, Nat.zero_add, Nat.reduceAdd, and_assoc, factsP_all, ptb_all, upd_all, Nat.mul_one, hdCells] at cs
                              try have v1 := PT.out _ _ O (.head _)
                              try simp only [cellsQ, roomP, and_assoc, and_true, true_and, Nat.add_zero, Nat.zero_add, Nat.reduceAdd, factsP, cellsP, roomP, foots_cons, foots_nil, foots_append, foot_pt, ptb, ptb_mapA, foot_mapA, factsP_mapA, foot_bun, List.append_nil, List.nil_append, List.cons_append, List.nodup_cons, List.nodup_nil, List.mem_cons, List.not_mem_nil, List.mem_singleton, List.forall_mem_cons, not_or, not_false_eq_true, and_true, true_and, or_false, false_or, forall_eq_or_imp, forall_eq, implies_true, Nat.zero_add, Nat.reduceAdd, and_assoc, factsP_all, ptb_all, upd_all, Nat.mul_one, hdCells] at v1
                              go_simp
                              apply Mem.atCall
                              case h => repeat' (first | (with_reducible exact O) | (with_reducible apply Mem.drew) | (with_reducible apply Mem.drewN) | (with_reducible apply Mem.ext) | (with_reducible apply Mem.alloc) | (with_reducible apply Mem.setCell) | (simp only [ptb, ptb_upd, foots_cons, List.mem_cons, World.size_alloc, size_ext, World.size_setCell, true_or, or_true, eq_self_iff_true, ptb_all]))
                              intro w6_17 O'
                              (try clear O)
                              have O := O'
                              clear O'
                              (first | simp only [sel, rst, List.cons_append, List.nil_append, World.size_alloc, size_ext, World.size_setCell, size_setMap, World.size_drew, size_drewN, upd, List.set_cons_zero, List.set_cons_succ, if_true, if_false, reduceIte, not_false_eq_true, ne_lt0, ne_lt1, ne_lt2, ne_lt3, ne_lt4, upd_all, cs] at O | simp only [sel, rst, List.cons_append, List.nil_append, World.size_alloc, size_ext, World.size_setCell, size_setMap, World.size_drew, size_drewN, upd, List.set_cons_zero, List.set_cons_succ, if_true, if_false, reduceIte, not_false_eq_true, ne_lt0, ne_lt1, ne_lt2, ne_lt3, ne_lt4, upd_all] at O | skip)
                              (try clear cs)
                              (try clear v1)
                              (try clear v2)
                              (try clear v3)
                              refine (CPA.out _).mono ?_
                              rintro e w6_17' ⟨rfl, o⟩
                              replace O := O.callp [] o
                              clear o
                              simp only [put, List.cons_append, List.nil_append] at O
                              go_wp2_with fail
                              refine hK.out _ _ (O.sel [false, false, false, false, false, false, true]) (fun _ => ?_)
                              clear hK K
                              revert O
                              exact hT6_0.out  w6_17'
                            exact AllReadyH.nil
                          case' tail =>
                            intro w6_18 O
                          refine wpAnyH_ready (rs := [15]) (by kernel_rfl) (by simp) ?_
                          refine consH rfl (fun K hK => ?_) AllReadyH.nil
                          have cs := O.facts
                          simp only [factsP, cellsP, roomP, foots_cons, foots_nil, foots_append, foot_pt, ptb, ptb_mapA, foot_mapA, factsP_mapA, foot_bun, List.append_nil, List.nil_append, List.cons_append, List.nodup_cons, List.nodup_nil, List.mem_cons, List.not_mem_nil, List.mem_singleton, List.forall_mem_cons, not_or, not_false_eq_true, and_true, true_and, or_false, false_or, forall_eq_or_imp, forall_eq, implies_true, Nat.zero_add, Nat.reduceAdd, and_assoc, factsP_all, ptb_all, upd_all, Nat.mul_one, hdCells] at cs
                          try have v1 := PT.out _ _ O (.head _)
                          try simp only [cellsQ, roomP, and_assoc, and_true, true_and, Nat.add_zero, Nat.zero_add, Nat.reduceAdd, factsP, cellsP, roomP, foots_cons, foots_nil, foots_append, foot_pt, ptb, ptb_mapA, foot_mapA, factsP_mapA, foot_bun, List.append_nil, List.nil_append, List.cons_append, List.nodup_cons, List.nodup_nil, List.mem_cons, List.not_mem_nil, List.mem_singleton, List.forall_mem_cons, not_or, not_false_eq_true, and_true, true_and, or_false, false_or, forall_eq_or_imp, forall_eq, implies_true, Nat.zero_add, Nat.reduceAdd, and_assoc, factsP_all, ptb_all, upd_all, Nat.mul_one, hdCells] at v1
                          go_simp
                          apply Mem.atCall
                          case h => repeat' (first | (with_reducible exact O) | (with_reducible apply Mem.drew) | (with_reducible apply Mem.drewN) | (with_reducible apply Mem.ext) | (with_reducible apply Mem.alloc) | (with_reducible apply Mem.setCell) | (simp only [ptb, ptb_upd, foots_cons, List.mem_cons, World.size_alloc, size_ext, World.size_setCell, true_or, or_true, eq_self_iff_true, ptb_all]))
                          intro w6_19 O'
                          (try clear O)
                          have O := O'
                          clear O'
                          (first | simp only [sel, rst, List.cons_append, List.nil_append, World.size_alloc, size_ext, World.size_setCell, size_setMap, World.size_drew, size_drewN, upd, List.set_cons_zero, List.set_cons_succ, if_true, if_false, reduceIte, not_false_eq_true, ne_lt0, ne_lt1, ne_lt2, ne_lt3, ne_lt4, upd_all, cs] at O | simp only [sel, rst, List.cons_append, List.nil_append, World.size_alloc, size_ext, World.size_setCell, size_setMap, World.size_drew, size_drewN, upd, List.set_cons_zero, List.set_cons_succ, if_true, if_false, reduceIte, not_false_eq_true, ne_lt0, ne_lt1, ne_lt2, ne_lt3, ne_lt4, upd_all] at O | skip)
                          (try clear cs)
                          (try clear v1)
                          (try clear v2)
                          (try clear v3)
                          refine (CA.out _ (O.pre [true, true, true]) (fun W' f => HXB.out W' (O.frOf [true, true, true] f))).mono ?_
                          rintro e w6_19' ⟨rfl, ws2, LA2, lc2, hC2, o⟩
                          replace O := O.callp [true, true, true] o
                          clear o
                          simp only [put, List.cons_append, List.nil_append] at O
                          go_wp2_with fail
                          refine hK.out _ _ (O.sel [false, false, false, false, false, false, true]) (fun _ => ?_)
                          clear hK K
                          refine wpAnyH_done (by kernel_rfl) ?_ _
                          skip
                          have cs := O.facts
                          try simp only [factsP, cellsP, roomP, foots_cons, foots_nil, foots_append, foot_pt, ptb, ptb_mapA, foot_mapA, factsP_mapA, foot_bun, List.append_nil, List.nil_append, List.cons_append, List.nodup_cons, List.nodup_nil, List.mem_cons, List.not_mem_nil, List.mem_singleton, List.forall_mem_cons, not_or, not_false_eq_true, and_true, true_and, or_false, false_or, forall_eq_or_imp, forall_eq, implies_true, Nat.zero_add, Nat.reduceAdd, and_assoc, factsP_all, ptb_all, upd_all, Nat.mul_one, hdCells] at cs
                          go_wp2_with fail
                          go_meet
                          replace O := ((((((O).front [false, false, false, false, false, true]).front [false, false, false, false, false, true]).front [false, false, false, false, true]).front [false, false, false, true]).front [false, false, false, false, false, true]).front [false, false, false, false, false, true]
                          simp only [Tk.sel, rst, List.cons_append, List.nil_append] at O
                          replace O := O.sel [true, true, true, true, true, true]
                          simp only [Tk.sel] at O
                          replace O := Mem.famPut (f := tabF) (a' := ⟨tbk, mbk, _⟩) O (List.getElem?_eq_some_iff.1 HTT.out).1
                          replace O := (((((O).front [false, false, false, false, true]).front [false, false, false, true]).front [false, false, false, false, true]).front [false, false, false, true]).front [false, false, false, false, true]
                          simp only [Tk.sel, rst, List.cons_append, List.nil_append] at O
                          replace O := O.sel [true, true, true, true, true]
                          simp only [Tk.sel] at O
                          refine ⟨wd.accept ⟨tid, x.bucket, r, 0⟩ a noB (wd.own ⟨tid, x.bucket, r, 0⟩), own, ws2, pt, pm, _, ms, LA2, lc2, ?_, HSET.out _, HMn.out, HAW.out, ?_⟩
                          · rw [HN.out]
                            unfold Wd.accept
                            rw [← HTM.out]
                            exact hC2
                          · simp only [wldL, txCells, HN.out]
                            unfold Wd.accept
                            rw [← HTM.out]
                            exact O
                  · as_aux_lemma =>
                      have VX := Lib.hid (fun W (h : Fr [] w W) => arg_view hbx hqx h)
                      simp only [itCells, cellsQ, Nat.add_zero, Nat.reduceAdd, and_true, Nat.zero_add] at VX
                      have VI := Lib.hid (fun W (h : Fr [] w W) => inc_cell hr (VX.out W h))
                      have c45 := HC.out.l
                      have PT := Lib.hid (fun (W : World) (L : List Asn) (O : Mem w [] W L) (hm : Asn.pt xb ws 83 ∈ L) => ptCell O hm c45)
                      clear c45
                      have hfin : AG w xb tb (TxS.mk tid tcl t0 t1 t2 (some ⟨bx, ox, none⟩) tc ts) (k + 1) d y5 := ⟨wd, own, ws, pt, pm, us, ms, LA, lc, by rw [HN.out]; exact HC.out, HTb.out, HMn.out, HW.out.mono (by omega), by simp only [wldL, txCells, HN.out]; exact O.sel [false, true, true, true, true, true]⟩
                      have HFIN := Lib.hid hfin
                      clear hfin
                      by_cases e2 : vk = 2
                      · subst e2
                        have hll : wd.l.length = 0 := by omega
                        have hlf : ((0 : Int) < (wd.l.length : Int)) = False := by simp [hll]
                        skip
                        clear h0 h1 h2
                        have cs := O.facts
                        try simp only [factsP, cellsP, roomP, foots_cons, foots_nil, foots_append, foot_pt, ptb, ptb_mapA, foot_mapA, factsP_mapA, foot_bun, List.append_nil, List.nil_append, List.cons_append, List.nodup_cons, List.nodup_nil, List.mem_cons, List.not_mem_nil, List.mem_singleton, List.forall_mem_cons, not_or, not_false_eq_true, and_true, true_and, or_false, false_or, forall_eq_or_imp, forall_eq, implies_true, Nat.zero_add, Nat.reduceAdd, and_assoc, factsP_all, ptb_all, upd_all, Nat.mul_one, hdCells] at cs
                        have v1 := PT.out _ _ O (by simp [Tk.sel])
                        try simp only [cellsQ, roomP, and_assoc, and_true, true_and, Nat.add_zero, Nat.zero_add, Nat.reduceAdd, factsP, cellsP, roomP, foots_cons, foots_nil, foots_append, foot_pt, ptb, ptb_mapA, foot_mapA, factsP_mapA, foot_bun, List.append_nil, List.nil_append, List.cons_append, List.nodup_cons, List.nodup_nil, List.mem_cons, List.not_mem_nil, List.mem_singleton, List.forall_mem_cons, not_or, not_false_eq_true, and_true, true_and, or_false, false_or, forall_eq_or_imp, forall_eq, implies_true, Nat.zero_add, Nat.reduceAdd, and_assoc, factsP_all, ptb_all, upd_all, Nat.mul_one, hdCells] at v1
                        go_wp2_with fail
                        go_meet
                        exact HFIN.out
                      · have e2' : (vk == 2) = false := by simpa using e2
                        by_cases e1 : vk = 1
                        · subst e1
                          have hi0 : x.inc r = 0 := by simpa using h1
                          rw [hi0] at VI
                          clear h0 h1 h2 hi0 e2 e2'
                          skip
                          have cs := O.facts
                          try simp only [factsP, cellsP, roomP, foots_cons, foots_nil, foots_append, foot_pt, ptb, ptb_mapA, foot_mapA, factsP_mapA, foot_bun, List.append_nil, List.nil_append, List.cons_append, List.nodup_cons, List.nodup_nil, List.mem_cons, List.not_mem_nil, List.mem_singleton, List.forall_mem_cons, not_or, not_false_eq_true, and_true, true_and, or_false, false_or, forall_eq_or_imp, forall_eq, implies_true, Nat.zero_add, Nat.reduceAdd, and_assoc, factsP_all, ptb_all, upd_all, Nat.mul_one, hdCells] at cs
                          try have v1 := VI.out _ O.fr
                          try simp only [cellsQ, roomP, and_assoc, and_true, true_and, Nat.add_zero, Nat.zero_add, Nat.reduceAdd, factsP, cellsP, roomP, foots_cons, foots_nil, foots_append, foot_pt, ptb, ptb_mapA, foot_mapA, factsP_mapA, foot_bun, List.append_nil, List.nil_append, List.cons_append, List.nodup_cons, List.nodup_nil, List.mem_cons, List.not_mem_nil, List.mem_singleton, List.forall_mem_cons, not_or, not_false_eq_true, and_true, true_and, or_false, false_or, forall_eq_or_imp, forall_eq, implies_true, Nat.zero_add, Nat.reduceAdd, and_assoc, factsP_all, ptb_all, upd_all, Nat.mul_one, hdCells] at v1
                          go_wp2_with fail
                          go_meet
                          exact HFIN.out
                        · have e1' : (vk == 1) = false := by simpa using e1
                          by_cases e0 : vk = 0
                          · subst e0
                            have hi0 : x.inc r = 0 := by simpa using h0
                            rw [hi0] at VI
                            clear h0 h1 h2 hi0 e1 e1' e2 e2'
                            skip
                            have cs := O.facts
                            try simp only [factsP, cellsP, roomP, foots_cons, foots_nil, foots_append, foot_pt, ptb, ptb_mapA, foot_mapA, factsP_mapA, foot_bun, List.append_nil, List.nil_append, List.cons_append, List.nodup_cons, List.nodup_nil, List.mem_cons, List.not_mem_nil, List.mem_singleton, List.forall_mem_cons, not_or, not_false_eq_true, and_true, true_and, or_false, false_or, forall_eq_or_imp, forall_eq, implies_true, Nat.zero_add, Nat.reduceAdd, and_assoc, factsP_all, ptb_all, upd_all, Nat.mul_one, hdCells] at cs
                            try have v1 := VI.out _ O.fr
                            try simp only [cellsQ, roomP, and_assoc, and_true, true_and, Nat.add_zero, Nat.zero_add, Nat.reduceAdd, factsP, cellsP, roomP, foots_cons, foots_nil, foots_append, foot_pt, ptb, ptb_mapA, foot_mapA, factsP_mapA, foot_bun, List.append_nil, List.nil_append, List.cons_append, List.nodup_cons, List.nodup_nil, List.mem_cons, List.not_mem_nil, List.mem_singleton, List.forall_mem_cons, not_or, not_false_eq_true, and_true, true_and, or_false, false_or, forall_eq_or_imp, forall_eq, implies_true, Nat.zero_add, Nat.reduceAdd, and_assoc, factsP_all, ptb_all, upd_all, Nat.mul_one, hdCells] at v1
                            go_wp2_with fail
                            go_meet
                            exact HFIN.out
                          · have e0' : (vk == 0) = false := by simpa using e0
                            clear h0 h1 h2 e0 e1 e2
                            skip
                            have cs := O.facts
                            try simp only [factsP, cellsP, roomP, foots_cons, foots_nil, foots_append, foot_pt, ptb, ptb_mapA, foot_mapA, factsP_mapA, foot_bun, List.append_nil, List.nil_append, List.cons_append, List.nodup_cons, List.nodup_nil, List.mem_cons, List.not_mem_nil, List.mem_singleton, List.forall_mem_cons, not_or, not_false_eq_true, and_true, true_and, or_false, false_or, forall_eq_or_imp, forall_eq, implies_true, Nat.zero_add, Nat.reduceAdd, and_assoc, factsP_all, ptb_all, upd_all, Nat.mul_one, hdCells] at cs
                            go_wp2_with fail
                            go_meet
                            exact HFIN.out
            case rest =>
              clear O HW HC HTb HMn
              as_aux_lemma =>
                have HAG := Lib.hid hcut
                obtain ⟨wd, own, ws, pt, pm, us, ms, LA, lc, _, _, _, _, O⟩ := hcut
                skip
                have cs := O.facts
                try simp only [factsP, cellsP, roomP, foots_cons, foots_nil, foots_append, foot_pt, ptb, ptb_mapA, foot_mapA, factsP_mapA, foot_bun, List.append_nil, List.nil_append, List.cons_append, List.nodup_cons, List.nodup_nil, List.mem_cons, List.not_mem_nil, List.mem_singleton, List.forall_mem_cons, not_or, not_false_eq_true, and_true, true_and, or_false, false_or, forall_eq_or_imp, forall_eq, implies_true, Nat.zero_add, Nat.reduceAdd, and_assoc, factsP_all, ptb_all, upd_all, Nat.mul_one, hdCells] at cs
                go_wp2_with fail
                clear cs O
                go_loopw [10, 16] (fun s10 s16 wr => ∃ (m : Nat) (d' : Int), m ≤ 3 ∧ s16 = .int .i64 m ∧ s10 = .int .i64 d' ∧ AG w xb tb (TxS.mk tid tcl t0 t1 t2 (some ⟨bx, ox, none⟩) tc ts) (k + 1) d' wr) (fun _ s16 _ => 3 - (intOf s16).toNat)
                case atStart => exact ⟨0, d, by omega, rfl, rfl, HAG.out⟩
                case round =>
                  clear HAG
                  obtain ⟨m, d', hm3, rfl, rfl, hAG⟩ := hrel
                  by_cases hm : m < 3
                  · have hmi : (m : Int) < 3 := by omega
                    obtain ⟨wd, own, ws, pt, pm, us, ms, LA, lc, hC, hT, hM, hW, O⟩ := hAG
                    have HC := Lib.hid hC
                    have HTb := Lib.hid hT
                    have HMn := Lib.hid hM
                    have HW := Lib.hid hW
                    clear hC hT hM hW
                    simp only [wldL, txCells, HN.out] at O
                    obtain ⟨M, hMk, hMp⟩ := HMn.out.get hm
                    have c9 := HC.out.man m hm
                    rw [hMp] at c9
                    have PT := Lib.hid (fun (W : World) (L : List Asn) (O : Mem w [] W L) (hm : Asn.pt xb ws 83 ∈ L) => ptCell O hm c9)
                    have hEk : (ms.map (·.E))[m]? = some M.E := by rw [List.getElem?_map, hMk]; rfl
                    have hME := HW.out.mg m M.E hEk
                    obtain ⟨hs1, hs2⟩ := HW.out.see hEk
                    have CD := Lib.hid (fun W (hW : Pre W [mgF M]) => x_Decision W M _ wd.l hME hW)
                    have HMK := Lib.hid hMk
                    clear c9 hME hMk hMp hEk
                    generalize M.E.d = ed at CD hs1 hs2
                    replace O := (((((O).front [false, false, false, false, true]).front [false, false, false, false, true]).front [false, false, false, true]).front [false, false, false, true]).front [false, false, false, false, true]
                    simp only [Tk.sel, rst, List.cons_append, List.nil_append] at O
                    replace O := O.sel [true, true, true, true, true]
                    simp only [Tk.sel] at O
                    skip
                    have hfin : ∀ W, Mem w [] W [fam mgF ms, .pt xb ws 83, fam tabF us, hdA LA lc wd.l, .pt tb [.int .u64 tid, .int .i64 tcl, .int .i64 t0, .int .i64 t1, .int .i64 t2, .slice (some ⟨bx, ox, none⟩) n tc] 26] → AG w xb tb (TxS.mk tid tcl t0 t1 t2 (some ⟨bx, ox, none⟩) tc ts) (k + 1) (if ed ≠ 0 then ed else d') W := fun W O => ⟨wd, own, ws, pt, pm, us, ms, LA, lc, HC.out, HTb.out, HMn.out, hs2, by
                      simp only [wldL, txCells, HN.out]
                      replace O := (((((O).front [false, false, false, false, true]).front [false, false, false, false, true]).front [false, false, true]).front [false, false, false, false, true]).front [false, false, false, false, true]
                      simp only [Tk.sel, rst, List.cons_append, List.nil_append] at O
                      replace O := O.sel [true, true, true, true, true]
                      simp only [Tk.sel] at O
                      exact O⟩
                    have HFIN := Lib.hid hfin
                    clear hfin hs2
                    have cs := O.facts
                    try simp only [factsP, cellsP, roomP, foots_cons, foots_nil, foots_append, foot_pt, ptb, ptb_mapA, foot_mapA, factsP_mapA, foot_bun, List.append_nil, List.nil_append, List.cons_append, List.nodup_cons, List.nodup_nil, List.mem_cons, List.not_mem_nil, List.mem_singleton, List.forall_mem_cons, not_or, not_false_eq_true, and_true, true_and, or_false, false_or, forall_eq_or_imp, forall_eq, implies_true, Nat.zero_add, Nat.reduceAdd, and_assoc, factsP_all, ptb_all, upd_all, Nat.mul_one, hdCells] at cs
                    have v1 := PT.out _ _ O (by simp [Tk.sel])
                    try simp only [cellsQ, roomP, and_assoc, and_true, true_and, Nat.add_zero, Nat.zero_add, Nat.reduceAdd, factsP, cellsP, roomP, foots_cons, foots_nil, foots_append, foot_pt, ptb, ptb_mapA, foot_mapA, factsP_mapA, foot_bun, List.append_nil, List.nil_append, List.cons_append, List.nodup_cons, List.nodup_nil, List.mem_cons, List.not_mem_nil, List.mem_singleton, List.forall_mem_cons, not_or, not_false_eq_true, and_true, true_and, or_false, false_or, forall_eq_or_imp, forall_eq, implies_true, Nat.zero_add, Nat.reduceAdd, and_assoc, factsP_all, ptb_all, upd_all, Nat.mul_one, hdCells] at v1
                    go_upto_region 34 with fail
                    apply region_held_mem [false, true, false, false, true] (by kernel_rfl)
                    case O => repeat' (first | (with_reducible exact O) | (with_reducible apply Mem.drew) | (with_reducible apply Mem.drewN) | (with_reducible apply Mem.ext) | (with_reducible apply Mem.alloc) | (with_reducible apply Mem.setCell) | (simp only [ptb, ptb_upd, foots_cons, List.mem_cons, World.size_alloc, size_ext, World.size_setCell, true_or, or_true, eq_self_iff_true, ptb_all]))
                    case' h =>
                      intro wr7 O'
                      (try clear O)
                      have O := O'
                      clear O'
                      (first | simp only [sel, rst, List.cons_append, List.nil_append, World.size_alloc, size_ext, World.size_setCell, size_setMap, World.size_drew, size_drewN, upd, List.set_cons_zero, List.set_cons_succ, if_true, if_false, reduceIte, not_false_eq_true, ne_lt0, ne_lt1, ne_lt2, ne_lt3, ne_lt4, upd_all, cs] at O | simp only [sel, rst, List.cons_append, List.nil_append, World.size_alloc, size_ext, World.size_setCell, size_setMap, World.size_drew, size_drewN, upd, List.set_cons_zero, List.set_cons_succ, if_true, if_false, reduceIte, not_false_eq_true, ne_lt0, ne_lt1, ne_lt2, ne_lt3, ne_lt4, upd_all] at O | skip)
                      (try clear cs)
                      (try clear v1)
                      (try clear v2)
                      (try clear v3)
                    refine takeH (i := 0) (v := ?v7_1) rfl (by kernel_rfl) (by kernel_rfl) (by kernel_rfl) (fun _ _ _ h => h) (by rfl) ?y7_1 (O.sel [false, true, false, false, true]) ?r7_1
                    case y7_1 =>
                      intro WW hSw
                      (go_simp) <;> (with_reducible rfl)
                    case' r7_1 =>
                      try simp only [Act.put, List.setIfInBounds_toArray, List.set_cons_zero, List.set_cons_succ]
                    refine takeH (i := 1) (v := ?v7_2) rfl (by kernel_rfl) (by kernel_rfl) (by kernel_rfl) (fun _ _ _ h => h) (by rfl) ?y7_2 (O.sel [false, true, false, false, true]) ?r7_2
                    case y7_2 =>
                      intro WW hSw
                      (go_simp) <;> (with_reducible rfl)
                    case' r7_2 =>
                      try simp only [Act.put, List.setIfInBounds_toArray, List.set_cons_zero, List.set_cons_succ]
                    refine takeH (i := 2) (v := ?v7_3) rfl (by kernel_rfl) (by kernel_rfl) (by kernel_rfl) (fun _ _ _ h => h) (by rfl) ?y7_3 (O.sel [false, true, false, false, true]) ?r7_3
                    case y7_3 =>
                      intro WW hSw
                      (go_simp) <;> (with_reducible rfl)
                    case' r7_3 =>
                      try simp only [Act.put, List.setIfInBounds_toArray, List.set_cons_zero, List.set_cons_succ]
                    refine takeH (i := 3) (v := ?v7_4) rfl (by kernel_rfl) (by kernel_rfl) (by kernel_rfl) (fun _ _ _ h => h) (by rfl) ?y7_4 (O.sel [false, true, false, false, true]) ?r7_4
                    case y7_4 =>
                      intro WW hSw
                      (go_simp) <;> (with_reducible rfl)
                    case' r7_4 =>
                      try simp only [Act.put, List.setIfInBounds_toArray, List.set_cons_zero, List.set_cons_succ]
                    refine takeH (i := 4) (v := ?v7_5) rfl (by kernel_rfl) (by kernel_rfl) (by kernel_rfl) (fun _ _ _ h => h) (by rfl) ?y7_5 (O.sel [false, true, false, false, true]) ?r7_5
                    case y7_5 =>
                      intro WW hSw
                      replace hSw : Mem _ _ WW _ := hSw
                      have cs := hSw.facts
                      simp only [sel, factsP, cellsP, roomP, foots_cons, foots_nil, foots_append, foot_pt, ptb, ptb_mapA, foot_mapA, factsP_mapA, foot_bun, List.append_nil, List.nil_append, List.cons_append, List.nodup_cons, List.nodup_nil, List.mem_cons, List.not_mem_nil, List.mem_singleton, List.forall_mem_cons, not_or, not_false_eq_true, and_true, true_and, or_false, false_or, forall_eq_or_imp, forall_eq, implies_true, Nat.zero_add, Nat.reduceAdd, and_assoc, factsP_all, ptb_all, upd_all, Nat.mul_one, hdCells] at cs
                      have v1 := PT.out _ _ hSw (by simp [Tk.sel])
                      try simp only [cellsQ, roomP, and_assoc, and_true, true_and, Nat.add_zero, Nat.zero_add, Nat.reduceAdd, factsP, cellsP, roomP, foots_cons, foots_nil, foots_append, foot_pt, ptb, ptb_mapA, foot_mapA, factsP_mapA, foot_bun, List.append_nil, List.nil_append, List.cons_append, List.nodup_cons, List.nodup_nil, List.mem_cons, List.not_mem_nil, List.mem_singleton, List.forall_mem_cons, not_or, not_false_eq_true, and_true, true_and, or_false, false_or, forall_eq_or_imp, forall_eq, implies_true, Nat.zero_add, Nat.reduceAdd, and_assoc, factsP_all, ptb_all, upd_all, Nat.mul_one, hdCells] at v1
                      (go_simp) <;> (with_reducible rfl)
                    case' r7_5 =>
                      try simp only [Act.put, List.setIfInBounds_toArray, List.set_cons_zero, List.set_cons_succ]
                    refine takeH (i := 5) (v := ?v7_6) rfl (by kernel_rfl) (by kernel_rfl) (by kernel_rfl) (fun _ _ _ h => h) (by rfl) ?y7_6 (O.sel [false, true, false, false, true]) ?r7_6
                    case y7_6 =>
                      intro WW hSw
                      replace hSw : Mem _ _ WW _ := hSw
                      have cs := hSw.facts
                      simp only [sel, factsP, cellsP, roomP, foots_cons, foots_nil, foots_append, foot_pt, ptb, ptb_mapA, foot_mapA, factsP_mapA, foot_bun, List.append_nil, List.nil_append, List.cons_append, List.nodup_cons, List.nodup_nil, List.mem_cons, List.not_mem_nil, List.mem_singleton, List.forall_mem_cons, not_or, not_false_eq_true, and_true, true_and, or_false, false_or, forall_eq_or_imp, forall_eq, implies_true, Nat.zero_add, Nat.reduceAdd, and_assoc, factsP_all, ptb_all, upd_all, Nat.mul_one, hdCells] at cs
                      have v1 := PT.out _ _ hSw (by simp [Tk.sel])
                      try simp only [cellsQ, roomP, and_assoc, and_true, true_and, Nat.add_zero, Nat.zero_add, Nat.reduceAdd, factsP, cellsP, roomP, foots_cons, foots_nil, foots_append, foot_pt, ptb, ptb_mapA, foot_mapA, factsP_mapA, foot_bun, List.append_nil, List.nil_append, List.cons_append, List.nodup_cons, List.nodup_nil, List.mem_cons, List.not_mem_nil, List.mem_singleton, List.forall_mem_cons, not_or, not_false_eq_true, and_true, true_and, or_false, false_or, forall_eq_or_imp, forall_eq, implies_true, Nat.zero_add, Nat.reduceAdd, and_assoc, factsP_all, ptb_all, upd_all, Nat.mul_one, hdCells] at v1
                      (go_simp) <;> (with_reducible rfl)
                    case' r7_6 =>
                      try simp only [Act.put, List.setIfInBounds_toArray, List.set_cons_zero, List.set_cons_succ]
                    refine takeH (i := 6) (v := ?v7_7) rfl (by kernel_rfl) (by kernel_rfl) (by kernel_rfl) (fun _ _ _ h => h) (by rfl) ?y7_7 (O.sel [false, true, false, false, true]) ?r7_7
                    case y7_7 =>
                      intro WW hSw
                      (go_simp) <;> (with_reducible rfl)
                    case' r7_7 =>
                      try simp only [Act.put, List.setIfInBounds_toArray, List.set_cons_zero, List.set_cons_succ]
                    refine takeH (i := 7) (v := ?v7_8) rfl (by kernel_rfl) (by kernel_rfl) (by kernel_rfl) (fun _ _ _ h => h) (by rfl) ?y7_8 (O.sel [false, true, false, false, true]) ?r7_8
                    case y7_8 =>
                      intro WW hSw
                      replace hSw : Mem _ _ WW _ := hSw
                      have cs := hSw.facts
                      simp only [sel, factsP, cellsP, roomP, foots_cons, foots_nil, foots_append, foot_pt, ptb, ptb_mapA, foot_mapA, factsP_mapA, foot_bun, List.append_nil, List.nil_append, List.cons_append, List.nodup_cons, List.nodup_nil, List.mem_cons, List.not_mem_nil, List.mem_singleton, List.forall_mem_cons, not_or, not_false_eq_true, and_true, true_and, or_false, false_or, forall_eq_or_imp, forall_eq, implies_true, Nat.zero_add, Nat.reduceAdd, and_assoc, factsP_all, ptb_all, upd_all, Nat.mul_one, hdCells] at cs
                      have v1 := PT.out _ _ hSw (by simp [Tk.sel])
                      try simp only [cellsQ, roomP, and_assoc, and_true, true_and, Nat.add_zero, Nat.zero_add, Nat.reduceAdd, factsP, cellsP, roomP, foots_cons, foots_nil, foots_append, foot_pt, ptb, ptb_mapA, foot_mapA, factsP_mapA, foot_bun, List.append_nil, List.nil_append, List.cons_append, List.nodup_cons, List.nodup_nil, List.mem_cons, List.not_mem_nil, List.mem_singleton, List.forall_mem_cons, not_or, not_false_eq_true, and_true, true_and, or_false, false_or, forall_eq_or_imp, forall_eq, implies_true, Nat.zero_add, Nat.reduceAdd, and_assoc, factsP_all, ptb_all, upd_all, Nat.mul_one, hdCells] at v1
                      (go_simp) <;> (with_reducible rfl)
                    case' r7_8 =>
                      try simp only [Act.put, List.setIfInBounds_toArray, List.set_cons_zero, List.set_cons_succ]
                    refine wpAnyH_ready (rs := [8]) (by kernel_rfl) (by simp) ?_
                    refine consH rfl (fun K hK => ?_) AllReadyH.nil
                    have cs := O.facts
                    simp only [factsP, cellsP, roomP, foots_cons, foots_nil, foots_append, foot_pt, ptb, ptb_mapA, foot_mapA, factsP_mapA, foot_bun, List.append_nil, List.nil_append, List.cons_append, List.nodup_cons, List.nodup_nil, List.mem_cons, List.not_mem_nil, List.mem_singleton, List.forall_mem_cons, not_or, not_false_eq_true, and_true, true_and, or_false, false_or, forall_eq_or_imp, forall_eq, implies_true, Nat.zero_add, Nat.reduceAdd, and_assoc, factsP_all, ptb_all, upd_all, Nat.mul_one, hdCells] at cs
                    have v1 := PT.out _ _ O (by simp [Tk.sel])
                    try simp only [cellsQ, roomP, and_assoc, and_true, true_and, Nat.add_zero, Nat.zero_add, Nat.reduceAdd, factsP, cellsP, roomP, foots_cons, foots_nil, foots_append, foot_pt, ptb, ptb_mapA, foot_mapA, factsP_mapA, foot_bun, List.append_nil, List.nil_append, List.cons_append, List.nodup_cons, List.nodup_nil, List.mem_cons, List.not_mem_nil, List.mem_singleton, List.forall_mem_cons, not_or, not_false_eq_true, and_true, true_and, or_false, false_or, forall_eq_or_imp, forall_eq, implies_true, Nat.zero_add, Nat.reduceAdd, and_assoc, factsP_all, ptb_all, upd_all, Nat.mul_one, hdCells] at v1
                    go_simp
                    apply Mem.atCall
                    case h => repeat' (first | (with_reducible exact O) | (with_reducible apply Mem.drew) | (with_reducible apply Mem.drewN) | (with_reducible apply Mem.ext) | (with_reducible apply Mem.alloc) | (with_reducible apply Mem.setCell) | (simp only [ptb, ptb_upd, foots_cons, List.mem_cons, World.size_alloc, size_ext, World.size_setCell, true_or, or_true, eq_self_iff_true, ptb_all]))
                    intro w7_9 O'
                    (try clear O)
                    have O := O'
                    clear O'
                    (first | simp only [sel, rst, List.cons_append, List.nil_append, World.size_alloc, size_ext, World.size_setCell, size_setMap, World.size_drew, size_drewN, upd, List.set_cons_zero, List.set_cons_succ, if_true, if_false, reduceIte, not_false_eq_true, ne_lt0, ne_lt1, ne_lt2, ne_lt3, ne_lt4, upd_all, cs] at O | simp only [sel, rst, List.cons_append, List.nil_append, World.size_alloc, size_ext, World.size_setCell, size_setMap, World.size_drew, size_drewN, upd, List.set_cons_zero, List.set_cons_succ, if_true, if_false, reduceIte, not_false_eq_true, ne_lt0, ne_lt1, ne_lt2, ne_lt3, ne_lt4, upd_all] at O | skip)
                    (try clear cs)
                    (try clear v1)
                    (try clear v2)
                    (try clear v3)
                    refine (CD.out _ ((O.famTake HMK.out).pre [true])).mono ?_
                    rintro e w7_9' ⟨rfl, o⟩
                    replace O := O.callp [] o
                    clear o
                    simp only [put, List.cons_append, List.nil_append] at O
                    go_wp2_with fail
                    refine hK.out _ _ (O.sel [false, true, false, false, true]) (fun _ => ?_)
                    clear hK K
                    refine takeH (i := 9) (v := ?v7_10) rfl (by kernel_rfl) (by kernel_rfl) (by kernel_rfl) (fun _ _ _ h => h) (by rfl) ?y7_10 (O.sel [false, true, false, false, true]) ?r7_10
                    case y7_10 =>
                      intro WW hSw
                      (go_simp) <;> (with_reducible rfl)
                    case' r7_10 =>
                      try simp only [Act.put, List.setIfInBounds_toArray, List.set_cons_zero, List.set_cons_succ]
                    refine takeH (i := 10) (v := ?v7_11) rfl (by kernel_rfl) (by kernel_rfl) (by kernel_rfl) (fun _ _ _ h => h) (by rfl) ?y7_11 (O.sel [false, true, false, false, true]) ?r7_11
                    case y7_11 =>
                      intro WW hSw
                      (go_simp) <;> (with_reducible rfl)
                    case' r7_11 =>
                      try simp only [Act.put, List.setIfInBounds_toArray, List.set_cons_zero, List.set_cons_succ]
                    refine takeH (i := 11) (v := ?v7_12) rfl (by kernel_rfl) (by kernel_rfl) (by kernel_rfl) (fun _ _ _ h => h) (by rfl) ?y7_12 (O.sel [false, true, false, false, true]) ?r7_12
                    case y7_12 =>
                      intro WW hSw
                      (go_simp) <;> (with_reducible rfl)
                    case' r7_12 =>
                      try simp only [Act.put, List.setIfInBounds_toArray, List.set_cons_zero, List.set_cons_succ]
                    refine takeH (i := 12) (v := ?v7_13) rfl (by kernel_rfl) (by kernel_rfl) (by kernel_rfl) (fun _ _ _ h => h) (by rfl) ?y7_13 (O.sel [false, true, false, false, true]) ?r7_13
                    case y7_13 =>
                      intro WW hSw
                      (go_simp) <;> (with_reducible rfl)
                    case' r7_13 =>
                      try simp only [Act.put, List.setIfInBounds_toArray, List.set_cons_zero, List.set_cons_succ]
                    refine takeH (i := 13) (v := ?v7_14) rfl (by kernel_rfl) (by kernel_rfl) (by kernel_rfl) (fun _ _ _ h => h) (by rfl) ?y7_14 (O.sel [false, true, false, false, true]) ?r7_14
                    case y7_14 =>
                      intro WW hSw
                      (go_simp) <;> (with_reducible rfl)
                    case' r7_14 =>
                      try simp only [Act.put, List.setIfInBounds_toArray, List.set_cons_zero, List.set_cons_succ]
                    refine wpAnyH_done (by kernel_rfl) ?_ _
                    by_cases he : ed = 0
                    · subst he
                      rw [if_neg (by simp)] at HFIN
                      skip
                      clear hs1
                      have cs := O.facts
                      try simp only [factsP, cellsP, roomP, foots_cons, foots_nil, foots_append, foot_pt, ptb, ptb_mapA, foot_mapA, factsP_mapA, foot_bun, List.append_nil, List.nil_append, List.cons_append, List.nodup_cons, List.nodup_nil, List.mem_cons, List.not_mem_nil, List.mem_singleton, List.forall_mem_cons, not_or, not_false_eq_true, and_true, true_and, or_false, false_or, forall_eq_or_imp, forall_eq, implies_true, Nat.zero_add, Nat.reduceAdd, and_assoc, factsP_all, ptb_all, upd_all, Nat.mul_one, hdCells] at cs
                      go_wp2_with fail
                      go_roundw
                      case rel => exact ⟨m + 1, d', by omega, by go_num, rfl, HFIN.out _ O⟩
                      case measure => simp [intOf]; omega
                    · rw [if_pos he] at HFIN
                      have he1 : (ed == 0) = false := by simpa using he
                      have he2 : (ed != 0) = true := by simpa using he
                      by_cases hd : d' = 0
                      · subst hd
                        clear hs1 he
                        skip
                        have cs := O.facts
                        try simp only [factsP, cellsP, roomP, foots_cons, foots_nil, foots_append, foot_pt, ptb, ptb_mapA, foot_mapA, factsP_mapA, foot_bun, List.append_nil, List.nil_append, List.cons_append, List.nodup_cons, List.nodup_nil, List.mem_cons, List.not_mem_nil, List.mem_singleton, List.forall_mem_cons, not_or, not_false_eq_true, and_true, true_and, or_false, false_or, forall_eq_or_imp, forall_eq, implies_true, Nat.zero_add, Nat.reduceAdd, and_assoc, factsP_all, ptb_all, upd_all, Nat.mul_one, hdCells] at cs
                        go_wp2_with fail
                        go_roundw
                        case rel => exact ⟨m + 1, ed, by omega, by go_num, rfl, HFIN.out _ O⟩
                        case measure => simp [intOf]; omega
                      · have hdd : ed = d' := by
                          by_cases h : ed = d'
                          · exact h
                          · exact absurd ⟨he, hd, h⟩ hs1
                        subst hdd
                        clear hs1 he hd
                        skip
                        have cs := O.facts
                        try simp only [factsP, cellsP, roomP, foots_cons, foots_nil, foots_append, foot_pt, ptb, ptb_mapA, foot_mapA, factsP_mapA, foot_bun, List.append_nil, List.nil_append, List.cons_append, List.nodup_cons, List.nodup_nil, List.mem_cons, List.not_mem_nil, List.mem_singleton, List.forall_mem_cons, not_or, not_false_eq_true, and_true, true_and, or_false, false_or, forall_eq_or_imp, forall_eq, implies_true, Nat.zero_add, Nat.reduceAdd, and_assoc, factsP_all, ptb_all, upd_all, Nat.mul_one, hdCells] at cs
                        go_wp2_with fail
                        go_roundw
                        case rel => exact ⟨m + 1, ed, by omega, by go_num, rfl, HFIN.out _ O⟩
                        case measure => simp [intOf]; omega
                  · obtain rfl : m = 3 := by omega
                    have hkf : ((3 : Int) < 3) = False := by simp
                    have HAG := Lib.hid hAG
                    obtain ⟨wd, own, ws, pt, pm, us, ms, LA, lc, _, _, _, _, O⟩ := hAG
                    skip
                    have cs := O.facts
                    try simp only [factsP, cellsP, roomP, foots_cons, foots_nil, foots_append, foot_pt, ptb, ptb_mapA, foot_mapA, factsP_mapA, foot_bun, List.append_nil, List.nil_append, List.cons_append, List.nodup_cons, List.nodup_nil, List.mem_cons, List.not_mem_nil, List.mem_singleton, List.forall_mem_cons, not_or, not_false_eq_true, and_true, true_and, or_false, false_or, forall_eq_or_imp, forall_eq, implies_true, Nat.zero_add, Nat.reduceAdd, and_assoc, factsP_all, ptb_all, upd_all, Nat.mul_one, hdCells] at cs
                    go_wp2_with fail
                    go_roundw
                    case rel => exact ⟨k + 1, d', by omega, by go_num, rfl, HAG.out⟩
                    case measure => simp [intOf]; omega
          · as_aux_lemma =>
              obtain ⟨wd, own, ws, pt, pm, us, ms, LA, lc, hC, hT, hM, hW, O⟩ := hAG
              have HC := Lib.hid (show Wc ws tid (some ⟨bx, ox, none⟩) n tc pt pm own wd.round LA wd.l.length lc by rw [← HN.out]; exact hC)
              have HW := Lib.hid hW
              clear hC hT hM hW
              simp only [wldL, txCells, HN.out] at O
              have HK := Lib.hid hk
              clear hk
              skip
              have cs := O.facts
              try simp only [factsP, cellsP, roomP, foots_cons, foots_nil, foots_append, foot_pt, ptb, ptb_mapA, foot_mapA, factsP_mapA, foot_bun, List.append_nil, List.nil_append, List.cons_append, List.nodup_cons, List.nodup_nil, List.mem_cons, List.not_mem_nil, List.mem_singleton, List.forall_mem_cons, not_or, not_false_eq_true, and_true, true_and, or_false, false_or, forall_eq_or_imp, forall_eq, implies_true, Nat.zero_add, Nat.reduceAdd, and_assoc, factsP_all, ptb_all, upd_all, Nat.mul_one, hdCells] at cs
              go_upto_region 15 with fail
              go_cut [83] (fun s83 wc => s83 = .bool false ∧ Mem w [] wc [.pt xb ws 83, fam tabF us, fam mgF ms, hdA LA lc wd.l, .pt tb [.int .u64 tid, .int .i64 tcl, .int .i64 t0, .int .i64 t1, .int .i64 t2, .slice (some ⟨bx, ox, none⟩) n tc] 26])
              case first =>
                have hk := HK.out
                by_cases c1 : k < ev.length
                · have c1i : (k : Int) < ev.length := by omega
                  have c2i : ¬ (k : Int) < 300 := by omega
                  clear hk
                  have cs := O.facts
                  try simp only [factsP, cellsP, roomP, foots_cons, foots_nil, foots_append, foot_pt, ptb, ptb_mapA, foot_mapA, factsP_mapA, foot_bun, List.append_nil, List.nil_append, List.cons_append, List.nodup_cons, List.nodup_nil, List.mem_cons, List.not_mem_nil, List.mem_singleton, List.forall_mem_cons, not_or, not_false_eq_true, and_true, true_and, or_false, false_or, forall_eq_or_imp, forall_eq, implies_true, Nat.zero_add, Nat.reduceAdd, and_assoc, factsP_all, ptb_all, upd_all, Nat.mul_one, hdCells] at cs
                  go_wp2_with fail
                  go_meet
                  exact ⟨rfl, O⟩
                · have c1i : ¬ (k : Int) < ev.length := by omega
                  clear hk
                  have cs := O.facts
                  try simp only [factsP, cellsP, roomP, foots_cons, foots_nil, foots_append, foot_pt, ptb, ptb_mapA, foot_mapA, factsP_mapA, foot_bun, List.append_nil, List.nil_append, List.cons_append, List.nodup_cons, List.nodup_nil, List.mem_cons, List.not_mem_nil, List.mem_singleton, List.forall_mem_cons, not_or, not_false_eq_true, and_true, true_and, or_false, false_or, forall_eq_or_imp, forall_eq, implies_true, Nat.zero_add, Nat.reduceAdd, and_assoc, factsP_all, ptb_all, upd_all, Nat.mul_one, hdCells] at cs
                  go_wp2_with fail
                  go_meet
                  exact ⟨rfl, O⟩
              case rest =>
                clear O
                obtain ⟨rfl, O⟩ := hcut
                have cs := O.facts
                try simp only [factsP, cellsP, roomP, foots_cons, foots_nil, foots_append, foot_pt, ptb, ptb_mapA, foot_mapA, factsP_mapA, foot_bun, List.append_nil, List.nil_append, List.cons_append, List.nodup_cons, List.nodup_nil, List.mem_cons, List.not_mem_nil, List.mem_singleton, List.forall_mem_cons, not_or, not_false_eq_true, and_true, true_and, or_false, false_or, forall_eq_or_imp, forall_eq, implies_true, Nat.zero_add, Nat.reduceAdd, and_assoc, factsP_all, ptb_all, upd_all, Nat.mul_one, hdCells] at cs
                go_wp2_with fail
                clear cs
                go_loopw [19] (fun s19 wr => ∃ (i : Nat), i ≤ n ∧ s19 = .int .i64 i ∧ Mem w [] wr [.pt xb ws 83, fam tabF us, fam mgF ms, hdA LA lc wd.l, .pt tb [.int .u64 tid, .int .i64 tcl, .int .i64 t0, .int .i64 t1, .int .i64 t2, .slice (some ⟨bx, ox, none⟩) n tc] 26]) (fun s19 _ => n - (intOf s19).toNat)
                case atStart => exact ⟨0, by omega, rfl, O⟩
                case round =>
                  clear O
                  obtain ⟨i, hin, rfl, O⟩ := hrel
                  by_cases hc : i < n ∧ d = 1
                  · obtain ⟨hi, rfl⟩ := hc
                    have hii : (i : Int) < n := by omega
                    have hi8 : i < 8 := by omega
                    have hi8i : (i : Int) < 8 := by omega
                    obtain ⟨x, hx⟩ : ∃ x, ts[i]? = some x := ⟨_, List.getElem?_eq_getElem (by rw [HN.out]; exact hi)⟩
                    have h3 := HW.out.commit hx
                    obtain ⟨pc, hpc⟩ : ∃ f : Nat → Nat, f = pcnt (own i) := ⟨_, rfl⟩
                    rw [← hpc] at h3
                    have h3i : ¬ ((pc 4 : Nat) : Int) < 3 := by omega
                    have hp0 : pc 0 = 0 := by rw [hpc]; rfl
                    have hps : Hid (∀ r, pc (r + 1) = pc r + if (own i r).toList = [112] then 1 else 0) := Lib.hid (fun r => by rw [hpc]; rfl)
                    have hpb : Hid (∀ r, pc r ≤ r) := Lib.hid (fun r => by
                      induction r with
                      | zero => omega
                      | succ r ih =>
                        rw [hps.out]
                        split <;> omega)
                    clear hpc h3 hx
                    have H0 := Lib.hid hp0
                    clear hp0
                    skip
                    have cs := O.facts
                    try simp only [factsP, cellsP, roomP, foots_cons, foots_nil, foots_append, foot_pt, ptb, ptb_mapA, foot_mapA, factsP_mapA, foot_bun, List.append_nil, List.nil_append, List.cons_append, List.nodup_cons, List.nodup_nil, List.mem_cons, List.not_mem_nil, List.mem_singleton, List.forall_mem_cons, not_or, not_false_eq_true, and_true, true_and, or_false, false_or, forall_eq_or_imp, forall_eq, implies_true, Nat.zero_add, Nat.reduceAdd, and_assoc, factsP_all, ptb_all, upd_all, Nat.mul_one, hdCells] at cs
                    go_wp2_with fail
                    clear cs
                    go_loopw [20, 21] (fun s20 s21 wr => ∃ (r : Nat), r ≤ 4 ∧ s21 = .int .i64 r ∧ s20 = .int .i64 (pc r : Nat) ∧ Mem w [] wr [.pt xb ws 83, fam tabF us, fam mgF ms, hdA LA lc wd.l, .pt tb [.int .u64 tid, .int .i64 tcl, .int .i64 t0, .int .i64 t1, .int .i64 t2, .slice (some ⟨bx, ox, none⟩) n tc] 26]) (fun _ s21 _ => 4 - (intOf s21).toNat)
                    case atStart => exact ⟨0, by omega, rfl, by rw [H0.out]; rfl, O⟩
                    case round =>
                      clear O
                      obtain ⟨r, hr4, rfl, rfl, O⟩ := hrel
                      by_cases hr : r < 4
                      · have hrr : (r : Int) < 4 := by omega
                        have c12 := HC.out.own i r hi8 hr
                        have PT := Lib.hid (fun (W : World) (L : List Asn) (O : Mem w [] W L) (hm : Asn.pt xb ws 83 ∈ L) => own_cell (ptCell O hm c12))
                        have hps1 := hps.out r
                        have hpr := hpb.out r
                        have HPR := Lib.hid hpr
                        have etl : (⟨#[112]⟩ : ByteArray).toList = [112] := by rw [ByteArray.toList_eq]
                        clear c12 hpr
                        have HPS := Lib.hid hps1
                        clear hps1
                        skip
                        by_cases hv : (own i r).toList = [112]
                        · have HVV := Lib.hid hv
                          have hvb : ((own i r).toList == [112]) = true := by simp [hv]
                          have hq : pc r ≤ 3 := by have := HPR.out; omega
                          clear hv
                          have cs := O.facts
                          try simp only [factsP, cellsP, roomP, foots_cons, foots_nil, foots_append, foot_pt, ptb, ptb_mapA, foot_mapA, factsP_mapA, foot_bun, List.append_nil, List.nil_append, List.cons_append, List.nodup_cons, List.nodup_nil, List.mem_cons, List.not_mem_nil, List.mem_singleton, List.forall_mem_cons, not_or, not_false_eq_true, and_true, true_and, or_false, false_or, forall_eq_or_imp, forall_eq, implies_true, Nat.zero_add, Nat.reduceAdd, and_assoc, factsP_all, ptb_all, upd_all, Nat.mul_one, hdCells] at cs
                          have v1 := PT.out _ _ O (by simp [Tk.sel])
                          try simp only [cellsQ, roomP, and_assoc, and_true, true_and, Nat.add_zero, Nat.zero_add, Nat.reduceAdd, factsP, cellsP, roomP, foots_cons, foots_nil, foots_append, foot_pt, ptb, ptb_mapA, foot_mapA, factsP_mapA, foot_bun, List.append_nil, List.nil_append, List.cons_append, List.nodup_cons, List.nodup_nil, List.mem_cons, List.not_mem_nil, List.mem_singleton, List.forall_mem_cons, not_or, not_false_eq_true, and_true, true_and, or_false, false_or, forall_eq_or_imp, forall_eq, implies_true, Nat.zero_add, Nat.reduceAdd, and_assoc, factsP_all, ptb_all, upd_all, Nat.mul_one, hdCells] at v1
                          go_wp2_with fail
                          go_roundw
                          case rel =>
                            have h1 := HPS.out
                            rw [if_pos HVV.out] at h1
                            have h2 : pc r ≤ 3 := by have := HPR.out; omega
                            exact ⟨r + 1, by omega, by go_num, by rw [h1]; go_num, O⟩
                          case measure => simp [intOf]; omega
                        · have HVV := Lib.hid hv
                          have hvb : ((own i r).toList == [112]) = false := by simp [hv]
                          clear hv
                          have cs := O.facts
                          try simp only [factsP, cellsP, roomP, foots_cons, foots_nil, foots_append, foot_pt, ptb, ptb_mapA, foot_mapA, factsP_mapA, foot_bun, List.append_nil, List.nil_append, List.cons_append, List.nodup_cons, List.nodup_nil, List.mem_cons, List.not_mem_nil, List.mem_singleton, List.forall_mem_cons, not_or, not_false_eq_true, and_true, true_and, or_false, false_or, forall_eq_or_imp, forall_eq, implies_true, Nat.zero_add, Nat.reduceAdd, and_assoc, factsP_all, ptb_all, upd_all, Nat.mul_one, hdCells] at cs
                          have v1 := PT.out _ _ O (by simp [Tk.sel])
                          try simp only [cellsQ, roomP, and_assoc, and_true, true_and, Nat.add_zero, Nat.zero_add, Nat.reduceAdd, factsP, cellsP, roomP, foots_cons, foots_nil, foots_append, foot_pt, ptb, ptb_mapA, foot_mapA, factsP_mapA, foot_bun, List.append_nil, List.nil_append, List.cons_append, List.nodup_cons, List.nodup_nil, List.mem_cons, List.not_mem_nil, List.mem_singleton, List.forall_mem_cons, not_or, not_false_eq_true, and_true, true_and, or_false, false_or, forall_eq_or_imp, forall_eq, implies_true, Nat.zero_add, Nat.reduceAdd, and_assoc, factsP_all, ptb_all, upd_all, Nat.mul_one, hdCells] at v1
                          go_wp2_with fail
                          go_roundw
                          case rel =>
                            have h1 := HPS.out
                            rw [if_neg HVV.out] at h1
                            exact ⟨r + 1, by omega, by go_num, by rw [h1]; rfl, O⟩
                          case measure => simp [intOf]; omega
                      · obtain rfl : r = 4 := by omega
                        have hkf : ((4 : Int) < 4) = False := by simp
                        skip
                        have cs := O.facts
                        try simp only [factsP, cellsP, roomP, foots_cons, foots_nil, foots_append, foot_pt, ptb, ptb_mapA, foot_mapA, factsP_mapA, foot_bun, List.append_nil, List.nil_append, List.cons_append, List.nodup_cons, List.nodup_nil, List.mem_cons, List.not_mem_nil, List.mem_singleton, List.forall_mem_cons, not_or, not_false_eq_true, and_true, true_and, or_false, false_or, forall_eq_or_imp, forall_eq, implies_true, Nat.zero_add, Nat.reduceAdd, and_assoc, factsP_all, ptb_all, upd_all, Nat.mul_one, hdCells] at cs
                        go_wp2_with fail
                        go_roundw
                        case rel => exact ⟨i + 1, by omega, by go_num, O⟩
                        case measure => simp [intOf]; omega
                  · by_cases hi : i < n
                    · have hii : (i : Int) < n := by omega
                      have hd : (d == 1) = false := by simp; omega
                      clear hc
                      skip
                      have cs := O.facts
                      try simp only [factsP, cellsP, roomP, foots_cons, foots_nil, foots_append, foot_pt, ptb, ptb_mapA, foot_mapA, factsP_mapA, foot_bun, List.append_nil, List.nil_append, List.cons_append, List.nodup_cons, List.nodup_nil, List.mem_cons, List.not_mem_nil, List.mem_singleton, List.forall_mem_cons, not_or, not_false_eq_true, and_true, true_and, or_false, false_or, forall_eq_or_imp, forall_eq, implies_true, Nat.zero_add, Nat.reduceAdd, and_assoc, factsP_all, ptb_all, upd_all, Nat.mul_one, hdCells] at cs
                      go_wp2_with fail
                      go_ret
                      exact ⟨rfl, O.fr0.fr.below rfl⟩
                    · have hii : ¬ (i : Int) < n := by omega
                      clear hc
                      skip
                      have cs := O.facts
                      try simp only [factsP, cellsP, roomP, foots_cons, foots_nil, foots_append, foot_pt, ptb, ptb_mapA, foot_mapA, factsP_mapA, foot_bun, List.append_nil, List.nil_append, List.cons_append, List.nodup_cons, List.nodup_nil, List.mem_cons, List.not_mem_nil, List.mem_singleton, List.forall_mem_cons, not_or, not_false_eq_true, and_true, true_and, or_false, false_or, forall_eq_or_imp, forall_eq, implies_true, Nat.zero_add, Nat.reduceAdd, and_assoc, factsP_all, ptb_all, upd_all, Nat.mul_one, hdCells] at cs
                      go_wp2_with fail
                      go_ret
                      exact ⟨rfl, O.fr0.fr.below rfl⟩
end Go.Proofs.Ytplliabmnhigbaa
