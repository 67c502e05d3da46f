/- WALKS: Send, Look, Count; what the law's head comes to. -/
import Derived.Test.YtpgdnifeafmfaaaNet07
set_option linter.unusedVariables false
set_option linter.unusedSimpArgs false
namespace Go.Proofs.Ytpgdnifeafmfaaa
open Go.RowKit Go.Tk
set_option maxRecDepth 100000 in
set_option maxHeartbeats 8000000 in
theorem n_Send (w : World) (nb mb : Nat) (n : Net07) (h : Pre w (netL nb mb n)) (f t : Int) (A : Option Addr) (c : Nat) (l : List UInt8) (hr : ∀ W, Fr (foots (netL nb mb n)) w W → Rd W A l) (hA : A = none → c = 0) (hl : l.length ≤ 65546) (hroom : ¬ ((n.packs.length : Int) = n.room)) (h0 : 0 ≤ n.last) (h1 : n.last < 18446744073709551615) (hs0 : 0 ≤ n.sent) (hs1 : n.sent < 1000000) (hf : ∀ p, mset n.packs (n.last + 1) p = n.packs ++ [(n.last + 1, p)]) :
    Calls Try.prog 14 #[.pointer (some ⟨nb, 0, none⟩), .int .i64 f, .int .i64 t, .slice A l.length c] w (fun e w' => ∃ A' c', e = .returned (.tuple #[.int .u64 (n.last + 1), .int .i64 0]) ∧ Mem w (foots (netL nb mb n)) w' (netL nb mb { n with last := n.last + 1, sent := n.sent + 1, packs := n.packs ++ [(n.last + 1, ⟨n.last + 1, f, t, A', c', l⟩)] })) := by
  obtain ⟨fp, hfp⟩ : ∃ F, F = foots (netL nb mb n) := ⟨_, rfl⟩
  have O : Mem w fp w (netL nb mb n) := by rw [hfp]; exact h
  rw [← hfp] at hr ⊢
  have CA := Lib.hid (fun W (hW : Fr fp w W) (hp : Pre W (netL nb mb n)) => n_add W nb mb n hp 0 f t A c l (fun W2 hW2 => hr W2 (hW.trans hW2 (fun b hb => .inl (by rw [hfp]; exact hb)))) hA (by omega) hroom h0 h1 hf)
  have hle : ¬ ((65546 : Int) < (l.length : Int)) := by omega
  clear hfp h hr hroom h0 h1 hf hl
  obtain ⟨room, last, x1, x2, x3, x4, x5, ps⟩ := n
  simp only at hs0 hs1
  have hsw : IntKind.i64.wrap (x1 + 1) = x1 + 1 := by simp [IntKind.wrap, IntKind.signed, IntKind.bits]; omega
  clear hs0 hs1
  simp only [Pack.val] at CA
  simp only [netL, netCells] at O ⊢
  skip
  go_enter Try.func14, Try.ntmps14
  have cs := O.facts
  simp only [factsP, cellsP, roomP, foots_cons, foots_nil, foots_append, foot_pt, ptb, ptb_mapA, foot_mapA, factsP_mapA, foot_bun, List.append_nil, List.nil_append, List.cons_append, List.nodup_cons, List.nodup_nil, List.mem_cons, List.not_mem_nil, List.mem_singleton, List.forall_mem_cons, not_or, not_false_eq_true, and_true, true_and, or_false, false_or, forall_eq_or_imp, forall_eq, implies_true, Nat.zero_add, Nat.reduceAdd, and_assoc, factsP_mapA, ptb_listA, factsP_listA, factsP_packsA, ptb_packsA, netCells, Nat.mul_one] at cs
  go_wp2_with fail
  first | apply Mem.atCall | apply Mem.atCode | apply Mem.atList
  case h => repeat' (first | (with_reducible exact O) | (with_reducible apply Mem.drew) | (with_reducible apply Mem.drewN) | (with_reducible apply Mem.ext) | (with_reducible apply Mem.alloc) | (with_reducible apply Mem.setCell) | (simp only [ptb, ptb_upd, foots_cons, List.mem_cons, World.size_alloc, size_ext, World.size_setCell, true_or, or_true, eq_self_iff_true]))
  case' k =>
    intro w1 O'
    (try clear O)
    have O := O'
    clear O'
    (first | simp only [sel, rst, List.cons_append, List.nil_append, World.size_alloc, size_ext, World.size_setCell, size_setMap, World.size_drew, size_drewN, upd, List.set_cons_zero, List.set_cons_succ, if_true, if_false, reduceIte, not_false_eq_true, ne_lt0, ne_lt1, ne_lt2, ne_lt3, ne_lt4, cs] at O | simp only [sel, rst, List.cons_append, List.nil_append, World.size_alloc, size_ext, World.size_setCell, size_setMap, World.size_drew, size_drewN, upd, List.set_cons_zero, List.set_cons_succ, if_true, if_false, reduceIte, not_false_eq_true, ne_lt0, ne_lt1, ne_lt2, ne_lt3, ne_lt4] at O | skip)
    (try clear cs)
    (try clear v1)
    (try clear v2)
    (try clear v3)
  have hpre : Pre w1 (netL nb mb ⟨room, last, x1, x2, x3, x4, x5, ps⟩) := O.pre [true, true, true]
  refine (CA.out _ O.fr hpre).mono ?_
  rintro e w2 ⟨A1, c1, rfl, o⟩
  replace O := O.callp [true, true, true] o
  clear o CA
  simp only [netL, netCells, put, List.cons_append, List.nil_append] at O
  clear hpre hle
  have cs := O.facts
  simp only [factsP, cellsP, roomP, foots_cons, foots_nil, foots_append, foot_pt, ptb, ptb_mapA, foot_mapA, factsP_mapA, foot_bun, List.append_nil, List.nil_append, List.cons_append, List.nodup_cons, List.nodup_nil, List.mem_cons, List.not_mem_nil, List.mem_singleton, List.forall_mem_cons, not_or, not_false_eq_true, and_true, true_and, or_false, false_or, forall_eq_or_imp, forall_eq, implies_true, Nat.zero_add, Nat.reduceAdd, and_assoc, factsP_mapA, ptb_listA, factsP_listA, factsP_packsA, ptb_packsA, netCells, Nat.mul_one] at cs
  go_wp2_with fail
  go_ret2
  refine ⟨A1, c1, rfl, ?_⟩
  apply Mem.to [true, true, true]
  · repeat' (first | (with_reducible exact O) | (with_reducible apply Mem.drew) | (with_reducible apply Mem.drewN) | (with_reducible apply Mem.ext) | (with_reducible apply Mem.alloc) | (with_reducible apply Mem.setCell) | (simp only [ptb, ptb_upd, foots_cons, List.mem_cons, World.size_alloc, size_ext, World.size_setCell, true_or, or_true, eq_self_iff_true]))
  · first | with_reducible rfl | (simp only [sel, rst, List.cons_append, List.nil_append, World.size_alloc, size_ext, World.size_setCell, size_setMap, World.size_drew, size_drewN, upd, List.set_cons_zero, List.set_cons_succ, if_true, if_false, reduceIte, not_false_eq_true, ne_lt0, ne_lt1, ne_lt2, ne_lt3, ne_lt4, cs]; done) | (simp only [sel, rst, List.cons_append, List.nil_append, World.size_alloc, size_ext, World.size_setCell, size_setMap, World.size_drew, size_drewN, upd, List.set_cons_zero, List.set_cons_succ, if_true, if_false, reduceIte, not_false_eq_true, ne_lt0, ne_lt1, ne_lt2, ne_lt3, ne_lt4]; done) | (simp only [sel, rst, List.cons_append, List.nil_append, World.size_alloc, size_ext, World.size_setCell, size_setMap, World.size_drew, size_drewN, upd, List.set_cons_zero, List.set_cons_succ, if_true, if_false, reduceIte, not_false_eq_true, ne_lt0, ne_lt1, ne_lt2, ne_lt3, ne_lt4, cs]; rfl) | (simp only [sel, rst, List.cons_append, List.nil_append, World.size_alloc, size_ext, World.size_setCell, size_setMap, World.size_drew, size_drewN, upd, List.set_cons_zero, List.set_cons_succ, if_true, if_false, reduceIte, not_false_eq_true, ne_lt0, ne_lt1, ne_lt2, ne_lt3, ne_lt4]; rfl)
set_option maxRecDepth 100000 in
set_option maxHeartbeats 8000000 in
theorem n_Count (w : World) (nb mb : Nat) (n : Net07) (h : Pre w (netL nb mb n)) :
    Calls Try.prog 9 #[.pointer (some ⟨nb, 0, none⟩)] w (fun e w' => e = .returned (.int .i64 (n.packs.length : Int)) ∧ Mem w [] w' []) := by
  have O : Mem w [] w [] := Mem.begin
  have H := Lib.hid h
  clear h
  obtain ⟨room, last, x1, x2, x3, x4, x5, ps⟩ := n
  simp only [netL, netCells] at H
  skip
  go_enter Try.func9, Try.ntmps9
  have hm : ∀ x : Ext, True := fun _ => trivial
  have HM : MapAt pidK Pack.val w mb ps := Mem.map (κ := pidK) (vv := Pack.val) (H.out.view O.fr) (by simp)
  have cs := O.facts
  simp only [factsP, cellsP, roomP, foots_cons, foots_nil, foots_append, foot_pt, ptb, ptb_mapA, foot_mapA, factsP_mapA, foot_bun, List.append_nil, List.nil_append, List.cons_append, List.nodup_cons, List.nodup_nil, List.mem_cons, List.not_mem_nil, List.mem_singleton, List.forall_mem_cons, not_or, not_false_eq_true, and_true, true_and, or_false, false_or, forall_eq_or_imp, forall_eq, implies_true, Nat.zero_add, Nat.reduceAdd, and_assoc, factsP_mapA, ptb_listA, factsP_listA, factsP_packsA, ptb_packsA, netCells, Nat.mul_one] at cs
  have v1 := (H.out.view O.fr).facts
  try simp only [cellsQ, roomP, and_assoc, and_true, true_and, Nat.add_zero, Nat.zero_add, Nat.reduceAdd, factsP, cellsP, roomP, foots_cons, foots_nil, foots_append, foot_pt, ptb, ptb_mapA, foot_mapA, factsP_mapA, foot_bun, List.append_nil, List.nil_append, List.cons_append, List.nodup_cons, List.nodup_nil, List.mem_cons, List.not_mem_nil, List.mem_singleton, List.forall_mem_cons, not_or, not_false_eq_true, and_true, true_and, or_false, false_or, forall_eq_or_imp, forall_eq, implies_true, Nat.zero_add, Nat.reduceAdd, and_assoc, factsP_mapA, ptb_listA, factsP_listA, factsP_packsA, ptb_packsA, netCells, Nat.mul_one] at v1
  go_wp2_with ((at_len; refine wpList_len_at rfl _ _ rfl Try.underlying60 rfl HM ?_))
  go_ret
  exact ⟨rfl, O⟩
set_option maxRecDepth 100000 in
set_option maxHeartbeats 8000000 in
theorem n_Look (w : World) (nb mb : Nat) (n : Net07) (h : Pre w (netL nb mb n)) (id : Int) (hid : 0 ≤ id) (hid2 : id ≤ 18446744073709551615) (p : Pack) (hp : mget n.packs id = some p) (hr : Rd w p.A p.l) (hA : p.A = none → p.c = 0) (hl : p.l.length ≤ 2000000) :
    Calls Try.prog 20 #[.pointer (some ⟨nb, 0, none⟩), .int .u64 id] w (fun e w' => ∃ A' c', e = .returned (.tuple #[(⟨p.id, p.from_, p.to_, A', c', p.l⟩ : Pack).val, .int .i64 0]) ∧ Mem w [] w' [bytesA A' c' p.l]) := by
  have O : Mem w [] w [] := Mem.begin
  obtain ⟨room, last, x1, x2, x3, x4, x5, ps⟩ := n
  obtain ⟨pi, pf, pt, pA, pc, pl⟩ := p
  simp only at hp hr hA hl
  have hk : pidK.ok id := by
    show (Lit.int .u64 id).wf = true
    simp [Lit.wf, IntKind.min, IntKind.max, IntKind.signed, IntKind.bits]
    omega
  have hz : ∀ w, (zeroValue 52).run Try.prog w = .ok noPack w := fun w => by kernel_rfl
  have LK := Lib.hid (fun W (hW : Fr [] w W) => by
    have := (Mem.map (κ := pidK) (vv := Pack.val) (Pre.view h hW) (b := mb) (m := ps) (by simp [netL])).lookup Try.underlying60 hz hk true
    simp only [hp, Option.map_some, Option.getD_some, Option.isSome_some, if_true] at this
    rw [show pidK.kv id = .int .u64 id from rfl] at this
    exact this)
  have CC := Lib.hid (fun W (hW : Fr [] w W) => fr_Clone W pA pc pl (hr.fr hW) hl hA)
  have H := Lib.hid h
  clear h hr hp hz hk hl hA
  simp only [netL, netCells] at H
  simp only [Pack.val] at LK ⊢
  skip
  go_enter Try.func20, Try.ntmps20
  have cs := O.facts
  simp only [factsP, cellsP, roomP, foots_cons, foots_nil, foots_append, foot_pt, ptb, ptb_mapA, foot_mapA, factsP_mapA, foot_bun, List.append_nil, List.nil_append, List.cons_append, List.nodup_cons, List.nodup_nil, List.mem_cons, List.not_mem_nil, List.mem_singleton, List.forall_mem_cons, not_or, not_false_eq_true, and_true, true_and, or_false, false_or, forall_eq_or_imp, forall_eq, implies_true, Nat.zero_add, Nat.reduceAdd, and_assoc, factsP_mapA, ptb_listA, factsP_listA, factsP_packsA, ptb_packsA, netCells, Nat.mul_one] at cs
  have v1 := (H.out.view O.fr).facts
  try simp only [cellsQ, roomP, and_assoc, and_true, true_and, Nat.add_zero, Nat.zero_add, Nat.reduceAdd, factsP, cellsP, roomP, foots_cons, foots_nil, foots_append, foot_pt, ptb, ptb_mapA, foot_mapA, factsP_mapA, foot_bun, List.append_nil, List.nil_append, List.cons_append, List.nodup_cons, List.nodup_nil, List.mem_cons, List.not_mem_nil, List.mem_singleton, List.forall_mem_cons, not_or, not_false_eq_true, and_true, true_and, or_false, false_or, forall_eq_or_imp, forall_eq, implies_true, Nat.zero_add, Nat.reduceAdd, and_assoc, factsP_mapA, ptb_listA, factsP_listA, factsP_packsA, ptb_packsA, netCells, Nat.mul_one] at v1
  have v2 := (LK.out _ O.fr)
  try simp only [cellsQ, roomP, and_assoc, and_true, true_and, Nat.add_zero, Nat.zero_add, Nat.reduceAdd, factsP, cellsP, roomP, foots_cons, foots_nil, foots_append, foot_pt, ptb, ptb_mapA, foot_mapA, factsP_mapA, foot_bun, List.append_nil, List.nil_append, List.cons_append, List.nodup_cons, List.nodup_nil, List.mem_cons, List.not_mem_nil, List.mem_singleton, List.forall_mem_cons, not_or, not_false_eq_true, and_true, true_and, or_false, false_or, forall_eq_or_imp, forall_eq, implies_true, Nat.zero_add, Nat.reduceAdd, and_assoc, factsP_mapA, ptb_listA, factsP_listA, factsP_packsA, ptb_packsA, netCells, Nat.mul_one] at v2
  go_upto_region 3 with fail
  first | apply Mem.atCall | apply Mem.atCode | apply Mem.atList
  case h => repeat' (first | (with_reducible exact O) | (with_reducible apply Mem.drew) | (with_reducible apply Mem.drewN) | (with_reducible apply Mem.ext) | (with_reducible apply Mem.alloc) | (with_reducible apply Mem.setCell) | (simp only [ptb, ptb_upd, foots_cons, List.mem_cons, World.size_alloc, size_ext, World.size_setCell, true_or, or_true, eq_self_iff_true]))
  case' k =>
    intro w1 O'
    (try clear O)
    have O := O'
    clear O'
    (first | simp only [sel, rst, List.cons_append, List.nil_append, World.size_alloc, size_ext, World.size_setCell, size_setMap, World.size_drew, size_drewN, upd, List.set_cons_zero, List.set_cons_succ, if_true, if_false, reduceIte, not_false_eq_true, ne_lt0, ne_lt1, ne_lt2, ne_lt3, ne_lt4, cs] at O | simp only [sel, rst, List.cons_append, List.nil_append, World.size_alloc, size_ext, World.size_setCell, size_setMap, World.size_drew, size_drewN, upd, List.set_cons_zero, List.set_cons_succ, if_true, if_false, reduceIte, not_false_eq_true, ne_lt0, ne_lt1, ne_lt2, ne_lt3, ne_lt4] at O | skip)
    (try clear cs)
    (try clear v1)
    (try clear v2)
    (try clear v3)
  skip
  have cs := O.facts
  simp only [factsP, cellsP, roomP, foots_cons, foots_nil, foots_append, foot_pt, ptb, ptb_mapA, foot_mapA, factsP_mapA, foot_bun, List.append_nil, List.nil_append, List.cons_append, List.nodup_cons, List.nodup_nil, List.mem_cons, List.not_mem_nil, List.mem_singleton, List.forall_mem_cons, not_or, not_false_eq_true, and_true, true_and, or_false, false_or, forall_eq_or_imp, forall_eq, implies_true, Nat.zero_add, Nat.reduceAdd, and_assoc, factsP_mapA, ptb_listA, factsP_listA, factsP_packsA, ptb_packsA, netCells, Nat.mul_one] at cs
  have v1 := (H.out.view O.fr).facts
  try simp only [cellsQ, roomP, and_assoc, and_true, true_and, Nat.add_zero, Nat.zero_add, Nat.reduceAdd, factsP, cellsP, roomP, foots_cons, foots_nil, foots_append, foot_pt, ptb, ptb_mapA, foot_mapA, factsP_mapA, foot_bun, List.append_nil, List.nil_append, List.cons_append, List.nodup_cons, List.nodup_nil, List.mem_cons, List.not_mem_nil, List.mem_singleton, List.forall_mem_cons, not_or, not_false_eq_true, and_true, true_and, or_false, false_or, forall_eq_or_imp, forall_eq, implies_true, Nat.zero_add, Nat.reduceAdd, and_assoc, factsP_mapA, ptb_listA, factsP_listA, factsP_packsA, ptb_packsA, netCells, Nat.mul_one] at v1
  have v2 := (LK.out _ O.fr)
  try simp only [cellsQ, roomP, and_assoc, and_true, true_and, Nat.add_zero, Nat.zero_add, Nat.reduceAdd, factsP, cellsP, roomP, foots_cons, foots_nil, foots_append, foot_pt, ptb, ptb_mapA, foot_mapA, factsP_mapA, foot_bun, List.append_nil, List.nil_append, List.cons_append, List.nodup_cons, List.nodup_nil, List.mem_cons, List.not_mem_nil, List.mem_singleton, List.forall_mem_cons, not_or, not_false_eq_true, and_true, true_and, or_false, false_or, forall_eq_or_imp, forall_eq, implies_true, Nat.zero_add, Nat.reduceAdd, and_assoc, factsP_mapA, ptb_listA, factsP_listA, factsP_packsA, ptb_packsA, netCells, Nat.mul_one] at v2
  go_wp2_with fail
  first | apply Mem.atCall | apply Mem.atCode | apply Mem.atList
  case h => repeat' (first | (with_reducible exact O) | (with_reducible apply Mem.drew) | (with_reducible apply Mem.drewN) | (with_reducible apply Mem.ext) | (with_reducible apply Mem.alloc) | (with_reducible apply Mem.setCell) | (simp only [ptb, ptb_upd, foots_cons, List.mem_cons, World.size_alloc, size_ext, World.size_setCell, true_or, or_true, eq_self_iff_true]))
  case' k =>
    intro w2 O'
    (try clear O)
    have O := O'
    clear O'
    (first | simp only [sel, rst, List.cons_append, List.nil_append, World.size_alloc, size_ext, World.size_setCell, size_setMap, World.size_drew, size_drewN, upd, List.set_cons_zero, List.set_cons_succ, if_true, if_false, reduceIte, not_false_eq_true, ne_lt0, ne_lt1, ne_lt2, ne_lt3, ne_lt4, cs] at O | simp only [sel, rst, List.cons_append, List.nil_append, World.size_alloc, size_ext, World.size_setCell, size_setMap, World.size_drew, size_drewN, upd, List.set_cons_zero, List.set_cons_succ, if_true, if_false, reduceIte, not_false_eq_true, ne_lt0, ne_lt1, ne_lt2, ne_lt3, ne_lt4] at O | skip)
    (try clear cs)
    (try clear v1)
    (try clear v2)
    (try clear v3)
  refine (CC.out _ O.fr).mono ?_
  rintro e w3 ⟨A1, c1, rfl, o⟩
  replace O := O.callp [] o
  clear o
  simp only [put, List.cons_append, List.nil_append] at O
  have O2 := O.front [false, true, true]
  simp only [sel, rst, List.cons_append, List.nil_append] at O2
  clear O
  have O := O2
  clear O2
  skip
  have cs := O.facts
  simp only [factsP, cellsP, roomP, foots_cons, foots_nil, foots_append, foot_pt, ptb, ptb_mapA, foot_mapA, factsP_mapA, foot_bun, List.append_nil, List.nil_append, List.cons_append, List.nodup_cons, List.nodup_nil, List.mem_cons, List.not_mem_nil, List.mem_singleton, List.forall_mem_cons, not_or, not_false_eq_true, and_true, true_and, or_false, false_or, forall_eq_or_imp, forall_eq, implies_true, Nat.zero_add, Nat.reduceAdd, and_assoc, factsP_mapA, ptb_listA, factsP_listA, factsP_packsA, ptb_packsA, netCells, Nat.mul_one] at cs
  go_wp2_with fail
  refine bodyPost_ret (v := .tuple #[.agg #[.int .u64 pi, .int .i64 pf, .int .i64 pt, .slice A1 pl.length c1], .int .i64 0]) (by simp [results, Try.results20, go_sem, cs]) rfl ⟨A1, c1, rfl, ?_⟩
  apply Mem.to [false, false, true]
  · repeat' (first | (with_reducible exact O) | (with_reducible apply Mem.drew) | (with_reducible apply Mem.drewN) | (with_reducible apply Mem.ext) | (with_reducible apply Mem.alloc) | (with_reducible apply Mem.setCell) | (simp only [ptb, ptb_upd, foots_cons, List.mem_cons, World.size_alloc, size_ext, World.size_setCell, true_or, or_true, eq_self_iff_true]))
  · first | with_reducible rfl | (simp only [sel, rst, List.cons_append, List.nil_append, World.size_alloc, size_ext, World.size_setCell, size_setMap, World.size_drew, size_drewN, upd, List.set_cons_zero, List.set_cons_succ, if_true, if_false, reduceIte, not_false_eq_true, ne_lt0, ne_lt1, ne_lt2, ne_lt3, ne_lt4, cs]; done) | (simp only [sel, rst, List.cons_append, List.nil_append, World.size_alloc, size_ext, World.size_setCell, size_setMap, World.size_drew, size_drewN, upd, List.set_cons_zero, List.set_cons_succ, if_true, if_false, reduceIte, not_false_eq_true, ne_lt0, ne_lt1, ne_lt2, ne_lt3, ne_lt4]; done) | (simp only [sel, rst, List.cons_append, List.nil_append, World.size_alloc, size_ext, World.size_setCell, size_setMap, World.size_drew, size_drewN, upd, List.set_cons_zero, List.set_cons_succ, if_true, if_false, reduceIte, not_false_eq_true, ne_lt0, ne_lt1, ne_lt2, ne_lt3, ne_lt4, cs]; rfl) | (simp only [sel, rst, List.cons_append, List.nil_append, World.size_alloc, size_ext, World.size_setCell, size_setMap, World.size_drew, size_drewN, upd, List.set_cons_zero, List.set_cons_succ, if_true, if_false, reduceIte, not_false_eq_true, ne_lt0, ne_lt1, ne_lt2, ne_lt3, ne_lt4]; rfl)
end Go.Proofs.Ytpgdnifeafmfaaa
