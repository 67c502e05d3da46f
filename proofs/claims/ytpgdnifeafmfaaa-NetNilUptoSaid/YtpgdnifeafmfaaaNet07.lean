/- WALKS: packets that are under way (New, add, Send, Look, Count). -/
import Derived.Test.YtpgdnifeafmfaaaNil07
set_option linter.unusedVariables false
set_option linter.unusedSimpArgs false
namespace Go.Proofs.Ytpgdnifeafmfaaa
open Go.RowKit Go.Tk
structure Pack where
  id : Int
  from_ : Int
  to_ : Int
  A : Option Addr
  c : Nat
  l : List UInt8
def Pack.val (p : Pack) : Value := .agg #[.int .u64 p.id, .int .i64 p.from_, .int .i64 p.to_, .slice p.A p.l.length p.c]
abbrev pidK : KeyTy Try.prog 30 Int := intKey Try.underlying30
structure Net07 where
  room : Int
  last : Int
  sent : Int
  twice : Int
  spoilt : Int
  taken : Int
  lost : Int
  packs : List (Int × Pack)
def netCells (n : Net07) (mb : Nat) : List Value := [.int .i64 n.room, .int .u64 n.last, .map (some mb), .int .i64 n.sent, .int .i64 n.twice, .int .i64 n.spoilt, .int .i64 n.taken, .int .i64 n.lost]
/-- the bytes of all packets -/
def packsA (ps : List (Int × Pack)) : Asn := bun (ps.map fun q => bytesA q.2.A q.2.c q.2.l)
theorem factsP_packsA {w : World} {L : List Asn} {ps : List (Int × Pack)} : factsP w (packsA ps :: L) = factsP w L := rfl
theorem ptb_packsA {L : List Asn} {ps : List (Int × Pack)} : ptb (packsA ps :: L) = ptb L := rfl
def netL (nb mb : Nat) (n : Net07) : List Asn := [.pt nb (netCells n mb) 62, mapA pidK Pack.val mb n.packs, packsA n.packs]
theorem Mem.packSnoc {w0 w : World} {F : List Nat} {L : List Asn} {ps : List (Int × Pack)} {k : Int} {p : Pack} (h : Mem w0 F w (bytesA p.A p.c p.l :: packsA ps :: L)) : Mem w0 F w (packsA (ps ++ [(k, p)]) :: L) := by
  have h1 : Mem w0 F w (packsA ps :: bytesA p.A p.c p.l :: L) := h.perm (List.Perm.swap _ _ _)
  have h2 := Mem.open_ h1
  refine Mem.shut (l := (ps ++ [(k, p)]).map _) ?_
  simpa using h2
set_option maxRecDepth 100000 in
set_option maxHeartbeats 4000000 in
theorem n_New (n : Int) (w : World) (h : 1 ≤ n ∧ n ≤ 4096) : Calls Try.prog 7 #[.int .i64 n] w (fun e w' => e = .returned (.tuple #[.pointer (some ⟨w.heap.size + 1, 0, none⟩), .int .i64 0]) ∧ Mem w [] w' (netL (w.heap.size + 1) w.heap.size ⟨n, 0, 0, 0, 0, 0, 0, []⟩)) := by
  obtain ⟨h1, h2⟩ := h
  have O : Mem w [] w [] := Mem.begin
  have hmm := @run_makeMap Try.prog
  go_enter Try.func7, Try.ntmps7
  go_wp2
  go_ret2
  refine ⟨rfl, ?_⟩
  have O2 := (O.newMap (κ := pidK) (vv := Pack.val)).alloc [.int .i64 n, .int .u64 0, .map (some w.heap.size), .int .i64 0, .int .i64 0, .int .i64 0, .int .i64 0, .int .i64 0] 62
  rw [World.size_alloc] at O2
  have O3 := (Mem.shut (l := []) O2).perm (L' := netL (w.heap.size + 1) w.heap.size ⟨n, 0, 0, 0, 0, 0, 0, []⟩) (by
    unfold netL packsA netCells
    exact (List.Perm.swap _ _ _).trans (List.Perm.cons _ (List.Perm.swap _ _ _)))
  exact O3
set_option maxRecDepth 100000 in
set_option maxHeartbeats 8000000 in
theorem n_add (w : World) (nb mb : Nat) (n : Net07) (h : Pre w (netL nb mb n)) (i f t : Int) (A : Option Addr) (c : Nat) (l : List UInt8) (hr : ∀ W, Fr (foots (netL nb mb n)) w W → Rd W A l) (hA : A = none → c = 0) (hl : l.length ≤ 2000000) (hroom : ¬ ((n.packs.length : Int) = n.room)) (h0 : 0 ≤ n.last) (h1 : n.last < 18446744073709551615) (hf : ∀ p, mset n.packs (n.last + 1) p = n.packs ++ [(n.last + 1, p)]) :
    Calls Try.prog 33 #[.pointer (some ⟨nb, 0, none⟩), (⟨i, f, t, A, c, l⟩ : Pack).val] w (fun e w' => ∃ A' c', e = .returned (.tuple #[.int .u64 (n.last + 1), .int .i64 0]) ∧ Mem w (foots (netL nb mb n)) w' (netL nb mb { n with last := n.last + 1, packs := n.packs ++ [(n.last + 1, ⟨n.last + 1, f, t, A', c', l⟩)] })) := by
  obtain ⟨fp, hfp⟩ : ∃ F, F = foots (netL nb mb n) := ⟨_, rfl⟩
  have O : Mem w fp w (netL nb mb n) := by rw [hfp]; exact h
  rw [← hfp] at hr ⊢
  clear hfp h
  obtain ⟨room, last, x1, x2, x3, x4, x5, ps⟩ := n
  simp only at hroom h0 h1 hf
  have hw1 : IntKind.u64.wrap (last + 1) = last + 1 := by simp [IntKind.wrap, IntKind.signed, IntKind.bits]; omega
  have hroom2 : ((ps.length : Int) == room) = false := by simpa using hroom
  have hk : pidK.ok (last + 1) := by
    show (Lit.int .u64 (last + 1)).wf = true
    simp [Lit.wf, IntKind.min, IntKind.max, IntKind.signed, IntKind.bits]
    omega
  have HK := Lib.hid hk
  have CC := Lib.hid (fun W hW => fr_Clone W A c l (hr W hW) hl hA)
  have HF := Lib.hid hf
  clear hf hr h0 h1 hk
  simp only [netL, netCells, Pack.val] at O ⊢
  skip
  go_enter Try.func33, Try.ntmps33
  have cs := O.facts
  simp only [factsP, cellsP, roomP, foots_cons, foots_nil, foots_append, foot_pt, ptb, ptb_mapA, foot_mapA, factsP_mapA, foot_bun, List.append_nil, List.nil_append, List.cons_append, List.nodup_cons, List.nodup_nil, List.mem_cons, List.not_mem_nil, List.mem_singleton, List.forall_mem_cons, not_or, not_false_eq_true, and_true, true_and, or_false, false_or, forall_eq_or_imp, forall_eq, implies_true, Nat.zero_add, Nat.reduceAdd, and_assoc, factsP_mapA, ptb_listA, factsP_listA, factsP_packsA, ptb_packsA, netCells, Nat.mul_one] at cs
  have v1 := (fun x => ((O.ext (x := x)).map (κ := pidK) (vv := Pack.val) (b := mb) (m := ps) (by simp)).len Try.underlying60 3)
  try simp only [cellsQ, roomP, and_assoc, and_true, true_and, Nat.add_zero, Nat.zero_add, Nat.reduceAdd, factsP, cellsP, roomP, foots_cons, foots_nil, foots_append, foot_pt, ptb, ptb_mapA, foot_mapA, factsP_mapA, foot_bun, List.append_nil, List.nil_append, List.cons_append, List.nodup_cons, List.nodup_nil, List.mem_cons, List.not_mem_nil, List.mem_singleton, List.forall_mem_cons, not_or, not_false_eq_true, and_true, true_and, or_false, false_or, forall_eq_or_imp, forall_eq, implies_true, Nat.zero_add, Nat.reduceAdd, and_assoc, factsP_mapA, ptb_listA, factsP_listA, factsP_packsA, ptb_packsA, netCells, Nat.mul_one] at v1
  go_wp2_with fail
  apply region_quiet_mem (by kernel_rfl) (by kernel_rfl)
  case O => repeat' (first | (with_reducible exact O) | (with_reducible apply Mem.drew) | (with_reducible apply Mem.drewN) | (with_reducible apply Mem.ext) | (with_reducible apply Mem.alloc) | (with_reducible apply Mem.setCell) | (with_reducible apply Mem.newMap (κ := pidK) (vv := Pack.val)) | (simp only [ptb, ptb_upd, foots_cons, List.mem_cons, World.size_alloc, size_ext, World.size_setCell, true_or, or_true, eq_self_iff_true]))
  case' h =>
    intro z1 O'
    (try clear O)
    have O := O'
    clear O'
    (first | simp only [sel, rst, List.cons_append, List.nil_append, World.size_alloc, size_ext, World.size_setCell, size_setMap, World.size_drew, size_drewN, upd, List.set_cons_zero, List.set_cons_succ, if_true, if_false, reduceIte, not_false_eq_true, ne_lt0, ne_lt1, ne_lt2, ne_lt3, ne_lt4, cs] at O | simp only [sel, rst, List.cons_append, List.nil_append, World.size_alloc, size_ext, World.size_setCell, size_setMap, World.size_drew, size_drewN, upd, List.set_cons_zero, List.set_cons_succ, if_true, if_false, reduceIte, not_false_eq_true, ne_lt0, ne_lt1, ne_lt2, ne_lt3, ne_lt4] at O | skip)
    (try clear cs)
    (try clear v1)
    (try clear v2)
    (try clear v3)
  have cs := O.facts
  simp only [factsP, cellsP, roomP, foots_cons, foots_nil, foots_append, foot_pt, ptb, ptb_mapA, foot_mapA, factsP_mapA, foot_bun, List.append_nil, List.nil_append, List.cons_append, List.nodup_cons, List.nodup_nil, List.mem_cons, List.not_mem_nil, List.mem_singleton, List.forall_mem_cons, not_or, not_false_eq_true, and_true, true_and, or_false, false_or, forall_eq_or_imp, forall_eq, implies_true, Nat.zero_add, Nat.reduceAdd, and_assoc, factsP_mapA, ptb_listA, factsP_listA, factsP_packsA, ptb_packsA, netCells, Nat.mul_one] at cs
  have v1 := (fun x => ((O.ext (x := x)).map (κ := pidK) (vv := Pack.val) (b := mb) (m := ps) (by simp)).len Try.underlying60 3)
  try simp only [cellsQ, roomP, and_assoc, and_true, true_and, Nat.add_zero, Nat.zero_add, Nat.reduceAdd, factsP, cellsP, roomP, foots_cons, foots_nil, foots_append, foot_pt, ptb, ptb_mapA, foot_mapA, factsP_mapA, foot_bun, List.append_nil, List.nil_append, List.cons_append, List.nodup_cons, List.nodup_nil, List.mem_cons, List.not_mem_nil, List.mem_singleton, List.forall_mem_cons, not_or, not_false_eq_true, and_true, true_and, or_false, false_or, forall_eq_or_imp, forall_eq, implies_true, Nat.zero_add, Nat.reduceAdd, and_assoc, factsP_mapA, ptb_listA, factsP_listA, factsP_packsA, ptb_packsA, netCells, Nat.mul_one] at v1
  repeat (go_big_quiet_step ((fail)))
  refine wpQuiet_nil ?_
  intro z2 hq
  (try clear cs)
  (try clear v1)
  (try clear v2)
  (try clear v3)
  replace O := O.qext hq
  clear hq
  skip
  have cs := O.facts
  simp only [factsP, cellsP, roomP, foots_cons, foots_nil, foots_append, foot_pt, ptb, ptb_mapA, foot_mapA, factsP_mapA, foot_bun, List.append_nil, List.nil_append, List.cons_append, List.nodup_cons, List.nodup_nil, List.mem_cons, List.not_mem_nil, List.mem_singleton, List.forall_mem_cons, not_or, not_false_eq_true, and_true, true_and, or_false, false_or, forall_eq_or_imp, forall_eq, implies_true, Nat.zero_add, Nat.reduceAdd, and_assoc, factsP_mapA, ptb_listA, factsP_listA, factsP_packsA, ptb_packsA, netCells, Nat.mul_one] at cs
  go_upto_region 3 with fail
  first | apply Mem.atCall | apply Mem.atCode | apply Mem.atList
  case h => repeat' (first | (with_reducible exact O) | (with_reducible apply Mem.drew) | (with_reducible apply Mem.drewN) | (with_reducible apply Mem.ext) | (with_reducible apply Mem.alloc) | (with_reducible apply Mem.setCell) | (with_reducible apply Mem.newMap (κ := pidK) (vv := Pack.val)) | (simp only [ptb, ptb_upd, foots_cons, List.mem_cons, World.size_alloc, size_ext, World.size_setCell, true_or, or_true, eq_self_iff_true]))
  case' k =>
    intro w1 O'
    (try clear O)
    have O := O'
    clear O'
    (first | simp only [sel, rst, List.cons_append, List.nil_append, World.size_alloc, size_ext, World.size_setCell, size_setMap, World.size_drew, size_drewN, upd, List.set_cons_zero, List.set_cons_succ, if_true, if_false, reduceIte, not_false_eq_true, ne_lt0, ne_lt1, ne_lt2, ne_lt3, ne_lt4, cs] at O | simp only [sel, rst, List.cons_append, List.nil_append, World.size_alloc, size_ext, World.size_setCell, size_setMap, World.size_drew, size_drewN, upd, List.set_cons_zero, List.set_cons_succ, if_true, if_false, reduceIte, not_false_eq_true, ne_lt0, ne_lt1, ne_lt2, ne_lt3, ne_lt4] at O | skip)
    (try clear cs)
    (try clear v1)
    (try clear v2)
    (try clear v3)
  generalize w.heap.size = pk at O ⊢
  skip
  have cs := O.facts
  simp only [factsP, cellsP, roomP, foots_cons, foots_nil, foots_append, foot_pt, ptb, ptb_mapA, foot_mapA, factsP_mapA, foot_bun, List.append_nil, List.nil_append, List.cons_append, List.nodup_cons, List.nodup_nil, List.mem_cons, List.not_mem_nil, List.mem_singleton, List.forall_mem_cons, not_or, not_false_eq_true, and_true, true_and, or_false, false_or, forall_eq_or_imp, forall_eq, implies_true, Nat.zero_add, Nat.reduceAdd, and_assoc, factsP_mapA, ptb_listA, factsP_listA, factsP_packsA, ptb_packsA, netCells, Nat.mul_one] at cs
  go_wp2_with fail
  first | apply Mem.atCall | apply Mem.atCode | apply Mem.atList
  case h => repeat' (first | (with_reducible exact O) | (with_reducible apply Mem.drew) | (with_reducible apply Mem.drewN) | (with_reducible apply Mem.ext) | (with_reducible apply Mem.alloc) | (with_reducible apply Mem.setCell) | (with_reducible apply Mem.newMap (κ := pidK) (vv := Pack.val)) | (simp only [ptb, ptb_upd, foots_cons, List.mem_cons, World.size_alloc, size_ext, World.size_setCell, true_or, or_true, eq_self_iff_true]))
  case' k =>
    intro w2 O'
    (try clear O)
    have O := O'
    clear O'
    (first | simp only [sel, rst, List.cons_append, List.nil_append, World.size_alloc, size_ext, World.size_setCell, size_setMap, World.size_drew, size_drewN, upd, List.set_cons_zero, List.set_cons_succ, if_true, if_false, reduceIte, not_false_eq_true, ne_lt0, ne_lt1, ne_lt2, ne_lt3, ne_lt4, cs] at O | simp only [sel, rst, List.cons_append, List.nil_append, World.size_alloc, size_ext, World.size_setCell, size_setMap, World.size_drew, size_drewN, upd, List.set_cons_zero, List.set_cons_succ, if_true, if_false, reduceIte, not_false_eq_true, ne_lt0, ne_lt1, ne_lt2, ne_lt3, ne_lt4] at O | skip)
    (try clear cs)
    (try clear v1)
    (try clear v2)
    (try clear v3)
  refine (CC.out _ O.fr).mono ?_
  rintro e w3 ⟨A1, c1, rfl, o⟩
  replace O := O.callp [] o
  clear o
  simp only [put, List.cons_append, List.nil_append] at O
  have O2 := O.front [false, true, true]
  simp only [sel, rst, List.cons_append, List.nil_append] at O2
  clear O
  have O := O2
  clear O2
  have cs := O.facts
  simp only [factsP, cellsP, roomP, foots_cons, foots_nil, foots_append, foot_pt, ptb, ptb_mapA, foot_mapA, factsP_mapA, foot_bun, List.append_nil, List.nil_append, List.cons_append, List.nodup_cons, List.nodup_nil, List.mem_cons, List.not_mem_nil, List.mem_singleton, List.forall_mem_cons, not_or, not_false_eq_true, and_true, true_and, or_false, false_or, forall_eq_or_imp, forall_eq, implies_true, Nat.zero_add, Nat.reduceAdd, and_assoc, factsP_mapA, ptb_listA, factsP_listA, factsP_packsA, ptb_packsA, netCells, Nat.mul_one] at cs
  go_upto_region 6 with fail
  first | apply Mem.atCall | apply Mem.atCode | apply Mem.atList
  case h => repeat' (first | (with_reducible exact O) | (with_reducible apply Mem.drew) | (with_reducible apply Mem.drewN) | (with_reducible apply Mem.ext) | (with_reducible apply Mem.alloc) | (with_reducible apply Mem.setCell) | (with_reducible apply Mem.newMap (κ := pidK) (vv := Pack.val)) | (simp only [ptb, ptb_upd, foots_cons, List.mem_cons, World.size_alloc, size_ext, World.size_setCell, true_or, or_true, eq_self_iff_true]))
  case' k =>
    intro w4 O'
    (try clear O)
    have O := O'
    clear O'
    (first | simp only [sel, rst, List.cons_append, List.nil_append, World.size_alloc, size_ext, World.size_setCell, size_setMap, World.size_drew, size_drewN, upd, List.set_cons_zero, List.set_cons_succ, if_true, if_false, reduceIte, not_false_eq_true, ne_lt0, ne_lt1, ne_lt2, ne_lt3, ne_lt4, cs] at O | simp only [sel, rst, List.cons_append, List.nil_append, World.size_alloc, size_ext, World.size_setCell, size_setMap, World.size_drew, size_drewN, upd, List.set_cons_zero, List.set_cons_succ, if_true, if_false, reduceIte, not_false_eq_true, ne_lt0, ne_lt1, ne_lt2, ne_lt3, ne_lt4] at O | skip)
    (try clear cs)
    (try clear v1)
    (try clear v2)
    (try clear v3)
  apply region_last_mem (by kernel_rfl) (by kernel_rfl)
  case O => repeat' (first | (with_reducible exact O) | (with_reducible apply Mem.drew) | (with_reducible apply Mem.drewN) | (with_reducible apply Mem.ext) | (with_reducible apply Mem.alloc) | (with_reducible apply Mem.setCell) | (with_reducible apply Mem.newMap (κ := pidK) (vv := Pack.val)) | (simp only [ptb, ptb_upd, foots_cons, List.mem_cons, World.size_alloc, size_ext, World.size_setCell, true_or, or_true, eq_self_iff_true]))
  case' h =>
    intro w5 O'
    (try clear O)
    have O := O'
    clear O'
    (first | simp only [sel, rst, List.cons_append, List.nil_append, World.size_alloc, size_ext, World.size_setCell, size_setMap, World.size_drew, size_drewN, upd, List.set_cons_zero, List.set_cons_succ, if_true, if_false, reduceIte, not_false_eq_true, ne_lt0, ne_lt1, ne_lt2, ne_lt3, ne_lt4, cs] at O | simp only [sel, rst, List.cons_append, List.nil_append, World.size_alloc, size_ext, World.size_setCell, size_setMap, World.size_drew, size_drewN, upd, List.set_cons_zero, List.set_cons_succ, if_true, if_false, reduceIte, not_false_eq_true, ne_lt0, ne_lt1, ne_lt2, ne_lt3, ne_lt4] at O | skip)
    (try clear cs)
    (try clear v1)
    (try clear v2)
    (try clear v3)
  simp only [List.length_cons, List.length_nil, Nat.reduceAdd, Nat.reduceSub, List.take_succ_cons, List.take_zero, List.drop_succ_cons, List.drop_zero]
  have cs := O.facts
  simp only [factsP, cellsP, roomP, foots_cons, foots_nil, foots_append, foot_pt, ptb, ptb_mapA, foot_mapA, factsP_mapA, foot_bun, List.append_nil, List.nil_append, List.cons_append, List.nodup_cons, List.nodup_nil, List.mem_cons, List.not_mem_nil, List.mem_singleton, List.forall_mem_cons, not_or, not_false_eq_true, and_true, true_and, or_false, false_or, forall_eq_or_imp, forall_eq, implies_true, Nat.zero_add, Nat.reduceAdd, and_assoc, factsP_mapA, ptb_listA, factsP_listA, factsP_packsA, ptb_packsA, netCells, Nat.mul_one] at cs
  repeat still_step
  refine wpStill_nil ?_
  go_upto_region 7 with ((at_mapUpdate; refine wpList_mapUpdate_mem (O.front1 [false, false, false, true] rfl) rfl _ _ _ _ rfl Try.underlying60 rfl (last + 1) HK.out ⟨last + 1, f, t, A1, c1, l⟩ rfl rfl ?_; intro w6 O6))
  (try clear cs)
  (try clear v1)
  (try clear v2)
  (try clear v3)
  have O7 := O6.unfront
  simp only [put, List.cons_append, List.nil_append] at O7
  rw [HF.out] at O7
  clear O O6
  have O := O7
  clear O7
  skip
  have cs := O.facts
  simp only [factsP, cellsP, roomP, foots_cons, foots_nil, foots_append, foot_pt, ptb, ptb_mapA, foot_mapA, factsP_mapA, foot_bun, List.append_nil, List.nil_append, List.cons_append, List.nodup_cons, List.nodup_nil, List.mem_cons, List.not_mem_nil, List.mem_singleton, List.forall_mem_cons, not_or, not_false_eq_true, and_true, true_and, or_false, false_or, forall_eq_or_imp, forall_eq, implies_true, Nat.zero_add, Nat.reduceAdd, and_assoc, factsP_mapA, ptb_listA, factsP_listA, factsP_packsA, ptb_packsA, netCells, Nat.mul_one] at cs
  go_wp2_with fail
  go_ret2
  refine ⟨A1, c1, rfl, ?_⟩
  have O8 := O.sel [false, true, true, true, true]
  simp only [sel] at O8
  have O9 := O8.perm (L' := [bytesA A1 c1 l, packsA ps, .pt nb [.int .i64 room, .int .u64 (last + 1), .map (some mb), .int .i64 x1, .int .i64 x2, .int .i64 x3, .int .i64 x4, .int .i64 x5] 62, mapA pidK Pack.val mb (ps ++ [(last + 1, ⟨last + 1, f, t, A1, c1, l⟩)])]) (by
    refine (List.Perm.swap _ _ _).trans (List.Perm.cons _ ?_)
    exact (List.perm_append_singleton _ [_, _]))
  have Oa := Mem.packSnoc (p := ⟨last + 1, f, t, A1, c1, l⟩) (k := last + 1) O9
  exact Oa.perm (by
    exact (List.perm_append_singleton _ [_, _]).symm)
end Go.Proofs.Ytpgdnifeafmfaaa
