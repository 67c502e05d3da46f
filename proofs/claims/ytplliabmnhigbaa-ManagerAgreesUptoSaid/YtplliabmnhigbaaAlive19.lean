/- WALK: the live question of chapter 19. -/
import Derived.Test.YtplliabmnhigbaaAliveP19
set_option linter.unusedVariables false
set_option linter.unusedSimpArgs false
namespace Go.Tk
/-- a part that a callee is not handed stays -/
theorem keep_over {w0 w W : World} {F : List Nat} {X : Asn} {L : List Asn} (O : Mem w0 F w (X :: L)) (f : Fr (foots L) w W) : X.holds W := by
  have hnd := O.nodup
  rw [foots_cons] at hnd
  exact Asn.loc (fun b hb => f.block b (O.lt b (by rw [foots_cons]; exact List.mem_append.2 (.inl hb))) (fun hc => (List.nodup_append.1 hnd).2.2 b hb b hc rfl)) (O.hold X (List.mem_cons_self ..))
end Go.Tk
namespace Go.Proofs.Ytplliabmnhigbaa
open Go.RowKit Go.Tk
structure AliveE (E : EntM) (pls : List (Inst × Learn11)) (d : Int) : Prop where
  id : E.id = 1
  client : E.client = 0
  m0 : E.m0 = 0
  m1 : E.m1 = 1
  m2 : E.m2 = 2
  s : ∃ B dd, E.s = [sItem B dd]
  ls : plnOf E.ls = pls
  d : E.d = d
theorem AliveE.right {E : EntM} {pls : List (Inst × Learn11)} {d : Int} (h : AliveE E pls d) : E.tx.right = true := by
  obtain ⟨B, dd, hs⟩ := h.s
  unfold EntM.tx TxR.right
  rw [h.id, h.client, h.m0, h.m1, h.m2, hs]
  simp [nodeOk, itemsOk, itemOkAt, sItem, ItS.r, ItemR.right, zeros, inc0]
def stOk (l : Learn11) : Prop := l = newL 3 ∨ l = half3 ∨ l = done3
theorem stOk.ok {l : Learn11} (h : stOk l) : LnOk l := by
  rcases h with rfl | rfl | rfl
  · exact LnOk.zero
  · exact ⟨rfl, by simp [half3, keysOf], fun q hq => by simp [half3] at hq; subst hq; simp⟩
  · exact ⟨rfl, by simp [done3, keysOf], fun q hq => by simp [done3] at hq; rcases hq with rfl | rfl <;> simp⟩
theorem stA_ok (r : Nat) : ∀ x ∈ stA r, stOk x.2 ∧ x.1.wf := by
  intro x hx
  simp only [stA, List.mem_cons, List.not_mem_nil, or_false] at hx
  rcases hx with rfl | rfl | rfl <;> (refine ⟨?_, by simp [sI, Inst.wf, Lit.wf, IntKind.min, IntKind.max, IntKind.signed, IntKind.bits]⟩; simp only; unfold stOk; split <;> simp)
theorem stB_ok (r : Nat) : ∀ x ∈ stB r, stOk x.2 ∧ x.1.wf := by
  intro x hx
  simp only [stB, List.mem_cons, List.not_mem_nil, or_false] at hx
  rcases hx with rfl | rfl | rfl <;> (refine ⟨?_, by simp [sI, Inst.wf, Lit.wf, IntKind.min, IntKind.max, IntKind.signed, IntKind.bits]⟩; simp only; unfold stOk; repeat' split) <;> simp
theorem AliveE.lnok {E : EntM} {pls : List (Inst × Learn11)} {d : Int} (h : AliveE E pls d) (hp : ∀ x ∈ pls, stOk x.2 ∧ x.1.wf) : ∀ x ∈ E.ls, LnOk x.2.l := fun x hx => by
  have : (x.1, x.2.l) ∈ plnOf E.ls := List.mem_map.2 ⟨x, hx, rfl⟩
  rw [h.ls] at this
  exact (hp _ this).1.ok
theorem AliveE.good {E : EntM} {pls : List (Inst × Learn11)} {d : Int} (h : AliveE E pls d) (hp : ∀ i ∈ [sI 0, sI 1, sI 2], (mget pls i).isSome = true) : E.good := by
  obtain ⟨B, dd, hs⟩ := h.s
  refine ⟨by rw [h.id]; decide, by rw [h.m0]; decide, by rw [h.m1]; decide, by rw [h.m2]; decide, by rw [hs]; simp, fun x hx => ?_, fun v hv => ?_⟩
  · rw [hs] at hx
    simp only [List.mem_singleton] at hx
    subst hx
    simp [sItem]
  · rw [h.id, hs, visits_s] at hv
    have : (mget pls v.i).isSome = true := by
      simp only [List.mem_cons, List.not_mem_nil, or_false] at hv
      rcases hv with rfl | rfl | rfl
      · exact hp _ (by simp)
      · exact hp _ (by simp)
      · exact hp _ (by simp)
    rw [← h.ls, mget_pln] at this
    simpa using this
theorem stA_has (r : Nat) : ∀ i ∈ [sI 0, sI 1, sI 2], (mget (stA r) i).isSome = true := by
  intro i hi
  simp only [List.mem_cons, List.not_mem_nil, or_false] at hi
  rcases hi with rfl | rfl | rfl <;> simp [stA, mget_cons, sI]
theorem stB_has (r : Nat) : ∀ i ∈ [sI 0, sI 1, sI 2], (mget (stB r) i).isSome = true := by
  intro i hi
  simp only [List.mem_cons, List.not_mem_nil, or_false] at hi
  rcases hi with rfl | rfl | rfl <;> simp [stB, mget_cons, sI]
theorem alive_hear {E : EntM} {pls : List (Inst × Learn11)} {d : Int} (h : AliveE E pls d) {r f : Int} {v1 v2 : Int} {pls' : List (Inst × Learn11)} {d' : Int} (he : ∀ B dd, hear11 true 1 [sItem B dd] pls d 3 r f noB pB = (v1, v2, pls', d')) : E.hears 3 r f noB pB = (v1, v2, pls', d') := by
  obtain ⟨B, dd, hs⟩ := h.s
  unfold EntM.hears
  rw [h.right, h.id, hs, h.ls, h.d]
  exact he B dd
theorem AliveE.step {E : EntM} {pls pls' : List (Inst × Learn11)} {d d' : Int} (h : AliveE E pls d) {ls' : List (Inst × LnM)} (hl : plnOf ls' = pls') : AliveE { E with ls := ls', d := d' } pls' d' :=
  ⟨h.id, h.client, h.m0, h.m1, h.m2, h.s, hl, rfl⟩
set_option maxRecDepth 100000 in
set_option maxHeartbeats 4000000 in
theorem c_sample (w : World) : Calls Try.prog 31 #[] w (fun e w' => ∃ g, e = .returned (.agg #[.int .u64 1, .int .i64 0, .int .i64 0, .int .i64 1, .int .i64 2, .slice (some ⟨g, 0, none⟩) 1 1]) ∧ Mem w [] w' [itemsA (some ⟨g, 0, none⟩) 1 [sItem none 0]]) := by
  have O : Mem w [] w [] := Mem.begin
  go_enter Try.func31, Try.ntmps31
  have cs := O.facts
  try simp only [factsP, cellsP, roomP, foots_cons, foots_nil, foots_append, foot_pt, ptb, ptb_mapA, foot_mapA, factsP_mapA, foot_bun, List.append_nil, List.nil_append, List.cons_append, List.nodup_cons, List.nodup_nil, List.mem_cons, List.not_mem_nil, List.mem_singleton, List.forall_mem_cons, not_or, not_false_eq_true, and_true, true_and, or_false, false_or, forall_eq_or_imp, forall_eq, implies_true, Nat.zero_add, Nat.reduceAdd, and_assoc, ptb_mapA, factsP_bun, ptb_bun, upd_listA, upd_datasA, upd_txA, upd_mapA, upd_bun, upd_fam, ptb_listA, factsP_listA, Nat.mul_one, ptb_datasA, factsP_datasA, ptb_txA, factsP_txA, itCells, ptb_fam, factsP_fam, ptb_learnA, factsP_learnA, mgrL, EntM.parts, EntM.cells] at cs
  go_upto_region 1 with fail
  go_cut [] (fun wc => Mem w [] wc [.pt (w.heap.size + 1) ([sItem none 0].flatMap itCells) 45, .pt w.heap.size [.int .u64 1, .int .i64 0, .int .i64 0, .int .i64 1, .int .i64 2, .slice (some ⟨w.heap.size + 1, 0, none⟩) 1 1] 26])
  case first =>
    have cs := O.facts
    try simp only [factsP, cellsP, roomP, foots_cons, foots_nil, foots_append, foot_pt, ptb, ptb_mapA, foot_mapA, factsP_mapA, foot_bun, List.append_nil, List.nil_append, List.cons_append, List.nodup_cons, List.nodup_nil, List.mem_cons, List.not_mem_nil, List.mem_singleton, List.forall_mem_cons, not_or, not_false_eq_true, and_true, true_and, or_false, false_or, forall_eq_or_imp, forall_eq, implies_true, Nat.zero_add, Nat.reduceAdd, and_assoc, ptb_mapA, factsP_bun, ptb_bun, upd_listA, upd_datasA, upd_txA, upd_mapA, upd_bun, upd_fam, ptb_listA, factsP_listA, Nat.mul_one, ptb_datasA, factsP_datasA, ptb_txA, factsP_txA, itCells, ptb_fam, factsP_fam, ptb_learnA, factsP_learnA, mgrL, EntM.parts, EntM.cells] at cs
    go_wp2_with fail
    go_meet
    have O1 := (O.alloc [.int .u64 1, .int .i64 0, .int .i64 0, .int .i64 1, .int .i64 2, .slice (some ⟨w.heap.size + 1, 0, none⟩) 1 1] 26).alloc ([sItem none 0].flatMap itCells) 45
    rw [World.size_alloc] at O1
    exact O1
  case rest =>
    clear O
    have O := hcut
    clear hcut
    have cs := O.facts
    try simp only [factsP, cellsP, roomP, foots_cons, foots_nil, foots_append, foot_pt, ptb, ptb_mapA, foot_mapA, factsP_mapA, foot_bun, List.append_nil, List.nil_append, List.cons_append, List.nodup_cons, List.nodup_nil, List.mem_cons, List.not_mem_nil, List.mem_singleton, List.forall_mem_cons, not_or, not_false_eq_true, and_true, true_and, or_false, false_or, forall_eq_or_imp, forall_eq, implies_true, Nat.zero_add, Nat.reduceAdd, and_assoc, ptb_mapA, factsP_bun, ptb_bun, upd_listA, upd_datasA, upd_txA, upd_mapA, upd_bun, upd_fam, ptb_listA, factsP_listA, Nat.mul_one, ptb_datasA, factsP_datasA, ptb_txA, factsP_txA, itCells, ptb_fam, factsP_fam, ptb_learnA, factsP_learnA, mgrL, EntM.parts, EntM.cells] at cs
    go_wp2_with fail
    refine bodyPost_ret (v := .agg #[.int .u64 1, .int .i64 0, .int .i64 0, .int .i64 1, .int .i64 2, .slice (some ⟨w.heap.size + 1, 0, none⟩) 1 1]) (by simp [results, Try.results31, go_sem, cs]) rfl ?_
    exact ⟨w.heap.size + 1, rfl, (ptList19 itLen O (by unfold maxLen; simp)).sel [true]⟩
def sampleT (A : Option Addr) (c : Nat) : TxS := ⟨1, 0, 0, 1, 2, A, c, [sItem none 0]⟩
theorem sample_at {W : World} {A : Option Addr} {c : Nat} (h : (itemsA A c [sItem none 0]).holds W) : (sampleT A c).At W := by
  refine ⟨by simp [sampleT], listA_atl itLen h, fun x hx => ?_, rfl, rfl, rfl, rfl⟩
  simp only [sampleT, List.mem_singleton] at hx
  subst hx
  exact ⟨by simp [sItem], by simp [sItem], none, 0, rfl, by simp [sItem]⟩
theorem sample_right (A : Option Addr) (c : Nat) : (sampleT A c).r.right = true := by
  unfold TxS.r TxR.right sampleT
  simp [nodeOk, itemsOk, itemOkAt, sItem, ItS.r, ItemR.right, zeros, inc0]
theorem core_sample {s : List ItS} (h : s.map ItS.core = [sItem none 0].map ItS.core) : ∃ B dd, s = [sItem B dd] := by
  match s, h with
  | [x], h =>
    simp only [List.map_cons, List.map_nil, List.cons.injEq, and_true] at h
    obtain ⟨a, b, c, B, d, e, f⟩ := x
    simp only [ItS.core, sItem, Core.mk.injEq] at h
    obtain ⟨rfl, rfl, rfl, rfl, rfl⟩ := h
    exact ⟨B, d, rfl⟩
  | [], h => simp at h
  | _ :: _ :: _, h => simp at h
theorem alive_new {E : EntM} {A : Option Addr} {c : Nat} (h : E.new (sampleT A c)) : AliveE E (stA 0) 0 := by
  obtain ⟨B, dd, hs⟩ := core_sample h.core
  refine ⟨h.id, h.client, h.m0, h.m1, h.m2, ⟨B, dd, hs⟩, ?_, h.d⟩
  have := h.ls
  unfold plnOf
  rw [this, hs, show (sampleT A c).id = 1 from rfl, visits_s]
  rfl
set_option maxRecDepth 100000 in
set_option maxHeartbeats 8000000 in
theorem law_alive19 (w : World) : Calls Try.prog 9 #[] w (fun e w' => e = .returned (.bool true) ∧ Mem w [] w' []) := by
  have O : Mem w [] w [] := Mem.begin
  go_enter Try.func9, Try.ntmps9
  have cs := O.facts
  try simp only [factsP, cellsP, roomP, foots_cons, foots_nil, foots_append, foot_pt, ptb, ptb_mapA, foot_mapA, factsP_mapA, foot_bun, List.append_nil, List.nil_append, List.cons_append, List.nodup_cons, List.nodup_nil, List.mem_cons, List.not_mem_nil, List.mem_singleton, List.forall_mem_cons, not_or, not_false_eq_true, and_true, true_and, or_false, false_or, forall_eq_or_imp, forall_eq, implies_true, Nat.zero_add, Nat.reduceAdd, and_assoc, ptb_mapA, factsP_bun, ptb_bun, upd_listA, upd_datasA, upd_txA, upd_mapA, upd_bun, upd_fam, ptb_listA, factsP_listA, Nat.mul_one, ptb_datasA, factsP_datasA, ptb_txA, factsP_txA, itCells, ptb_fam, factsP_fam, ptb_learnA, factsP_learnA, mgrL, EntM.parts, EntM.cells] at cs
  go_wp2_with fail
  first | apply Mem.atCall | apply Mem.atCode | apply Mem.atList
  case h => repeat' (first | (with_reducible exact O) | (with_reducible apply Mem.drew) | (with_reducible apply Mem.drewN) | (with_reducible apply Mem.ext) | (with_reducible apply Mem.alloc) | (with_reducible apply Mem.setCell) | (simp only [ptb, ptb_upd, foots_cons, List.mem_cons, World.size_alloc, size_ext, World.size_setCell, true_or, or_true, eq_self_iff_true, ptb_mapA, ptb_bun, ptb_listA, ptb_datasA, ptb_txA, ptb_fam, ptb_learnA]))
  case' k =>
    intro w1 O'
    (try clear O)
    have O := O'
    clear O'
    (first | simp only [sel, rst, List.cons_append, List.nil_append, World.size_alloc, size_ext, World.size_setCell, size_setMap, World.size_drew, size_drewN, upd, List.set_cons_zero, List.set_cons_succ, if_true, if_false, reduceIte, not_false_eq_true, ne_lt0, ne_lt1, ne_lt2, ne_lt3, ne_lt4, upd_listA, upd_datasA, upd_txA, upd_mapA, upd_bun, upd_fam, cs] at O | simp only [sel, rst, List.cons_append, List.nil_append, World.size_alloc, size_ext, World.size_setCell, size_setMap, World.size_drew, size_drewN, upd, List.set_cons_zero, List.set_cons_succ, if_true, if_false, reduceIte, not_false_eq_true, ne_lt0, ne_lt1, ne_lt2, ne_lt3, ne_lt4, upd_listA, upd_datasA, upd_txA, upd_mapA, upd_bun, upd_fam] at O | skip)
    (try clear cs)
    (try clear v1)
    (try clear v2)
    (try clear v3)
  refine (m_New w1).mono ?_
  rintro e w2 ⟨mb, mp, rfl, o⟩
  replace O := O.callp [] o
  clear o
  simp only [mgrL, put, List.append_nil, List.map_nil, List.length_nil] at O
  have cs := O.facts
  try simp only [factsP, cellsP, roomP, foots_cons, foots_nil, foots_append, foot_pt, ptb, ptb_mapA, foot_mapA, factsP_mapA, foot_bun, List.append_nil, List.nil_append, List.cons_append, List.nodup_cons, List.nodup_nil, List.mem_cons, List.not_mem_nil, List.mem_singleton, List.forall_mem_cons, not_or, not_false_eq_true, and_true, true_and, or_false, false_or, forall_eq_or_imp, forall_eq, implies_true, Nat.zero_add, Nat.reduceAdd, and_assoc, ptb_mapA, factsP_bun, ptb_bun, upd_listA, upd_datasA, upd_txA, upd_mapA, upd_bun, upd_fam, ptb_listA, factsP_listA, Nat.mul_one, ptb_datasA, factsP_datasA, ptb_txA, factsP_txA, itCells, ptb_fam, factsP_fam, ptb_learnA, factsP_learnA, mgrL, EntM.parts, EntM.cells] at cs
  go_wp2_with fail
  first | apply Mem.atCall | apply Mem.atCode | apply Mem.atList
  case h => repeat' (first | (with_reducible exact O) | (with_reducible apply Mem.drew) | (with_reducible apply Mem.drewN) | (with_reducible apply Mem.ext) | (with_reducible apply Mem.alloc) | (with_reducible apply Mem.setCell) | (simp only [ptb, ptb_upd, foots_cons, List.mem_cons, World.size_alloc, size_ext, World.size_setCell, true_or, or_true, eq_self_iff_true, ptb_mapA, ptb_bun, ptb_listA, ptb_datasA, ptb_txA, ptb_fam, ptb_learnA]))
  case' k =>
    intro w3 O'
    (try clear O)
    have O := O'
    clear O'
    (first | simp only [sel, rst, List.cons_append, List.nil_append, World.size_alloc, size_ext, World.size_setCell, size_setMap, World.size_drew, size_drewN, upd, List.set_cons_zero, List.set_cons_succ, if_true, if_false, reduceIte, not_false_eq_true, ne_lt0, ne_lt1, ne_lt2, ne_lt3, ne_lt4, upd_listA, upd_datasA, upd_txA, upd_mapA, upd_bun, upd_fam, cs] at O | simp only [sel, rst, List.cons_append, List.nil_append, World.size_alloc, size_ext, World.size_setCell, size_setMap, World.size_drew, size_drewN, upd, List.set_cons_zero, List.set_cons_succ, if_true, if_false, reduceIte, not_false_eq_true, ne_lt0, ne_lt1, ne_lt2, ne_lt3, ne_lt4, upd_listA, upd_datasA, upd_txA, upd_mapA, upd_bun, upd_fam] at O | skip)
    (try clear cs)
    (try clear v1)
    (try clear v2)
    (try clear v3)
  refine (c_sample w3).mono ?_
  rintro e w4 ⟨g, rfl, o⟩
  replace O := O.callp [] o
  clear o
  simp only [put, List.cons_append, List.nil_append] at O
  have cs := O.facts
  try simp only [factsP, cellsP, roomP, foots_cons, foots_nil, foots_append, foot_pt, ptb, ptb_mapA, foot_mapA, factsP_mapA, foot_bun, List.append_nil, List.nil_append, List.cons_append, List.nodup_cons, List.nodup_nil, List.mem_cons, List.not_mem_nil, List.mem_singleton, List.forall_mem_cons, not_or, not_false_eq_true, and_true, true_and, or_false, false_or, forall_eq_or_imp, forall_eq, implies_true, Nat.zero_add, Nat.reduceAdd, and_assoc, ptb_mapA, factsP_bun, ptb_bun, upd_listA, upd_datasA, upd_txA, upd_mapA, upd_bun, upd_fam, ptb_listA, factsP_listA, Nat.mul_one, ptb_datasA, factsP_datasA, ptb_txA, factsP_txA, itCells, ptb_fam, factsP_fam, ptb_learnA, factsP_learnA, mgrL, EntM.parts, EntM.cells] at cs
  go_wp2_with fail
  first | apply Mem.atCall | apply Mem.atCode | apply Mem.atList
  case h => repeat' (first | (with_reducible exact O) | (with_reducible apply Mem.drew) | (with_reducible apply Mem.drewN) | (with_reducible apply Mem.ext) | (with_reducible apply Mem.alloc) | (with_reducible apply Mem.setCell) | (simp only [ptb, ptb_upd, foots_cons, List.mem_cons, World.size_alloc, size_ext, World.size_setCell, true_or, or_true, eq_self_iff_true, ptb_mapA, ptb_bun, ptb_listA, ptb_datasA, ptb_txA, ptb_fam, ptb_learnA]))
  case' k =>
    intro w5 O'
    (try clear O)
    have O := O'
    clear O'
    (first | simp only [sel, rst, List.cons_append, List.nil_append, World.size_alloc, size_ext, World.size_setCell, size_setMap, World.size_drew, size_drewN, upd, List.set_cons_zero, List.set_cons_succ, if_true, if_false, reduceIte, not_false_eq_true, ne_lt0, ne_lt1, ne_lt2, ne_lt3, ne_lt4, upd_listA, upd_datasA, upd_txA, upd_mapA, upd_bun, upd_fam, cs] at O | simp only [sel, rst, List.cons_append, List.nil_append, World.size_alloc, size_ext, World.size_setCell, size_setMap, World.size_drew, size_drewN, upd, List.set_cons_zero, List.set_cons_succ, if_true, if_false, reduceIte, not_false_eq_true, ne_lt0, ne_lt1, ne_lt2, ne_lt3, ne_lt4, upd_listA, upd_datasA, upd_txA, upd_mapA, upd_bun, upd_fam] at O | skip)
    (try clear cs)
    (try clear v1)
    (try clear v2)
    (try clear v3)
  have hts : ∀ W, Fr (foots (mgrL mb mp none 0 [])) w5 W → (sampleT (some ⟨g, 0, none⟩) 1).At W := fun W f => sample_at (keep_over O f)
  refine (m_Know_new w5 mb mp none 0 [] (sampleT (some ⟨g, 0, none⟩) 1) (O.pre [false, true, true, true, true]) hts (sample_right _ _) (by simp) (by simp)).mono ?_
  rintro e w6 ⟨rfl, OA, oc, E, hE, o⟩
  replace O := O.call [false, true, true, true, true] o
  clear o hts
  replace O : Mem w [] w6 (mgrL mb mp OA oc [E]) := O.sel [true, true, true, true]
  have HE0 := Lib.hid (alive_new hE)
  clear hE
  have cs := O.facts
  try simp only [factsP, cellsP, roomP, foots_cons, foots_nil, foots_append, foot_pt, ptb, ptb_mapA, foot_mapA, factsP_mapA, foot_bun, List.append_nil, List.nil_append, List.cons_append, List.nodup_cons, List.nodup_nil, List.mem_cons, List.not_mem_nil, List.mem_singleton, List.forall_mem_cons, not_or, not_false_eq_true, and_true, true_and, or_false, false_or, forall_eq_or_imp, forall_eq, implies_true, Nat.zero_add, Nat.reduceAdd, and_assoc, ptb_mapA, factsP_bun, ptb_bun, upd_listA, upd_datasA, upd_txA, upd_mapA, upd_bun, upd_fam, ptb_listA, factsP_listA, Nat.mul_one, ptb_datasA, factsP_datasA, ptb_txA, factsP_txA, itCells, ptb_fam, factsP_fam, ptb_learnA, factsP_learnA, mgrL, EntM.parts, EntM.cells] at cs
  go_wp2_with fail
  clear cs
  go_loopw [2, 3] (fun s2 s3 wr => ∃ (r : Nat) (E : EntM), r ≤ 3 ∧ s3 = .int .i64 r ∧ s2 = .int .i64 (dA r) ∧ Mem w [] wr (mgrL mb mp OA oc [E]) ∧ Hid (AliveE E (stA r) (dA r))) (fun _ s3 _ => 3 - (intOf s3).toNat)
  case atStart => exact ⟨0, E, by omega, rfl, rfl, O, HE0⟩
  case round =>
    clear O HE0 E
    obtain ⟨r, E, hr, rfl, rfl, O, HE⟩ := hrel
    obtain ⟨eb, lb, id, client, m0, m1, m2, A, c, s, ls, d⟩ := E
    obtain rfl : id = 1 := HE.out.id
    by_cases hr3 : r < 3
    · have hr3i : (r : Int) < 3 := by omega
      have hda : dA r = 0 := by unfold dA; rw [if_neg (by omega)]
      rw [hda] at HE
      have hwf : (⟨1, 3, (r : Int), 0⟩ : Inst).wf := instWf rfl rfl (by omega)
      have e1 := alive_hear HE.out (fun B dd => hearA B dd hr3)
      have C1 := Lib.hid (fun W (hW : Pre W (mgrL mb mp OA oc [EntM.mk eb lb 1 client m0 m1 m2 A c s ls d])) => m_Hear W mb mp OA oc [EntM.mk eb lb 1 client m0 m1 m2 A c s ls d] 0 _ rfl (HE.out.good (stA_has r)) (HE.out.lnok (stA_ok r)) hW 3 r 0 noB pB hwf)
      simp only [e1] at C1
      simp only [Ballot.val, noB, pB] at C1
      have HWF := Lib.hid hwf
      clear hwf e1 hda
      skip
      have cs := O.facts
      try simp only [factsP, cellsP, roomP, foots_cons, foots_nil, foots_append, foot_pt, ptb, ptb_mapA, foot_mapA, factsP_mapA, foot_bun, List.append_nil, List.nil_append, List.cons_append, List.nodup_cons, List.nodup_nil, List.mem_cons, List.not_mem_nil, List.mem_singleton, List.forall_mem_cons, not_or, not_false_eq_true, and_true, true_and, or_false, false_or, forall_eq_or_imp, forall_eq, implies_true, Nat.zero_add, Nat.reduceAdd, and_assoc, ptb_mapA, factsP_bun, ptb_bun, upd_listA, upd_datasA, upd_txA, upd_mapA, upd_bun, upd_fam, ptb_listA, factsP_listA, Nat.mul_one, ptb_datasA, factsP_datasA, ptb_txA, factsP_txA, itCells, ptb_fam, factsP_fam, ptb_learnA, factsP_learnA, mgrL, EntM.parts, EntM.cells] at cs
      go_wp2_with fail
      first | apply Mem.atCall | apply Mem.atCode | apply Mem.atList
      case h => repeat' (first | (with_reducible exact O) | (with_reducible apply Mem.drew) | (with_reducible apply Mem.drewN) | (with_reducible apply Mem.ext) | (with_reducible apply Mem.alloc) | (with_reducible apply Mem.setCell) | (simp only [ptb, ptb_upd, foots_cons, List.mem_cons, World.size_alloc, size_ext, World.size_setCell, true_or, or_true, eq_self_iff_true, ptb_mapA, ptb_bun, ptb_listA, ptb_datasA, ptb_txA, ptb_fam, ptb_learnA]))
      case' k =>
        intro wa O'
        (try clear O)
        have O := O'
        clear O'
        (first | simp only [sel, rst, List.cons_append, List.nil_append, World.size_alloc, size_ext, World.size_setCell, size_setMap, World.size_drew, size_drewN, upd, List.set_cons_zero, List.set_cons_succ, if_true, if_false, reduceIte, not_false_eq_true, ne_lt0, ne_lt1, ne_lt2, ne_lt3, ne_lt4, upd_listA, upd_datasA, upd_txA, upd_mapA, upd_bun, upd_fam, cs] at O | simp only [sel, rst, List.cons_append, List.nil_append, World.size_alloc, size_ext, World.size_setCell, size_setMap, World.size_drew, size_drewN, upd, List.set_cons_zero, List.set_cons_succ, if_true, if_false, reduceIte, not_false_eq_true, ne_lt0, ne_lt1, ne_lt2, ne_lt3, ne_lt4, upd_listA, upd_datasA, upd_txA, upd_mapA, upd_bun, upd_fam] at O | skip)
        (try clear cs)
        (try clear v1)
        (try clear v2)
        (try clear v3)
      refine (C1.out _ O.preAll).mono ?_
      rintro e wb ⟨rfl, ls2, hls2, o⟩
      replace O := O.callAll o
      clear o C1
      have HE2 : Hid (AliveE (EntM.mk eb lb 1 client m0 m1 m2 A c s ls2 0) (stB r) 0) := Lib.hid (HE.out.step hls2)
      have e2 := alive_hear HE2.out (fun B dd => hearB B dd hr3)
      have C2 := Lib.hid (fun W (hW : Pre W (mgrL mb mp OA oc [EntM.mk eb lb 1 client m0 m1 m2 A c s ls2 0])) => m_Hear W mb mp OA oc [EntM.mk eb lb 1 client m0 m1 m2 A c s ls2 0] 0 _ rfl (HE2.out.good (stB_has r)) (HE2.out.lnok (stB_ok r)) hW 3 r 1 noB pB HWF.out)
      simp only [e2] at C2
      simp only [Ballot.val, noB, pB] at C2
      clear e2 hls2
      replace O : Mem w [] wb (mgrL mb mp OA oc [EntM.mk eb lb 1 client m0 m1 m2 A c s ls2 0]) := O
      have cs := O.facts
      try simp only [factsP, cellsP, roomP, foots_cons, foots_nil, foots_append, foot_pt, ptb, ptb_mapA, foot_mapA, factsP_mapA, foot_bun, List.append_nil, List.nil_append, List.cons_append, List.nodup_cons, List.nodup_nil, List.mem_cons, List.not_mem_nil, List.mem_singleton, List.forall_mem_cons, not_or, not_false_eq_true, and_true, true_and, or_false, false_or, forall_eq_or_imp, forall_eq, implies_true, Nat.zero_add, Nat.reduceAdd, and_assoc, ptb_mapA, factsP_bun, ptb_bun, upd_listA, upd_datasA, upd_txA, upd_mapA, upd_bun, upd_fam, ptb_listA, factsP_listA, Nat.mul_one, ptb_datasA, factsP_datasA, ptb_txA, factsP_txA, itCells, ptb_fam, factsP_fam, ptb_learnA, factsP_learnA, mgrL, EntM.parts, EntM.cells] at cs
      go_wp2_with fail
      first | apply Mem.atCall | apply Mem.atCode | apply Mem.atList
      case h => repeat' (first | (with_reducible exact O) | (with_reducible apply Mem.drew) | (with_reducible apply Mem.drewN) | (with_reducible apply Mem.ext) | (with_reducible apply Mem.alloc) | (with_reducible apply Mem.setCell) | (simp only [ptb, ptb_upd, foots_cons, List.mem_cons, World.size_alloc, size_ext, World.size_setCell, true_or, or_true, eq_self_iff_true, ptb_mapA, ptb_bun, ptb_listA, ptb_datasA, ptb_txA, ptb_fam, ptb_learnA]))
      case' k =>
        intro wc O'
        (try clear O)
        have O := O'
        clear O'
        (first | simp only [sel, rst, List.cons_append, List.nil_append, World.size_alloc, size_ext, World.size_setCell, size_setMap, World.size_drew, size_drewN, upd, List.set_cons_zero, List.set_cons_succ, if_true, if_false, reduceIte, not_false_eq_true, ne_lt0, ne_lt1, ne_lt2, ne_lt3, ne_lt4, upd_listA, upd_datasA, upd_txA, upd_mapA, upd_bun, upd_fam, cs] at O | simp only [sel, rst, List.cons_append, List.nil_append, World.size_alloc, size_ext, World.size_setCell, size_setMap, World.size_drew, size_drewN, upd, List.set_cons_zero, List.set_cons_succ, if_true, if_false, reduceIte, not_false_eq_true, ne_lt0, ne_lt1, ne_lt2, ne_lt3, ne_lt4, upd_listA, upd_datasA, upd_txA, upd_mapA, upd_bun, upd_fam] at O | skip)
        (try clear cs)
        (try clear v1)
        (try clear v2)
        (try clear v3)
      refine (C2.out _ O.preAll).mono ?_
      rintro e wd ⟨rfl, ls3, hls3, o⟩
      replace O := O.callAll o
      clear o C2
      have HE3 := Lib.hid (HE2.out.step (d' := dA (r + 1)) hls3)
      clear hls3
      replace O : Mem w [] wd (mgrL mb mp OA oc [EntM.mk eb lb 1 client m0 m1 m2 A c s ls3 (dA (r + 1))]) := O
      have cs := O.facts
      try simp only [factsP, cellsP, roomP, foots_cons, foots_nil, foots_append, foot_pt, ptb, ptb_mapA, foot_mapA, factsP_mapA, foot_bun, List.append_nil, List.nil_append, List.cons_append, List.nodup_cons, List.nodup_nil, List.mem_cons, List.not_mem_nil, List.mem_singleton, List.forall_mem_cons, not_or, not_false_eq_true, and_true, true_and, or_false, false_or, forall_eq_or_imp, forall_eq, implies_true, Nat.zero_add, Nat.reduceAdd, and_assoc, ptb_mapA, factsP_bun, ptb_bun, upd_listA, upd_datasA, upd_txA, upd_mapA, upd_bun, upd_fam, ptb_listA, factsP_listA, Nat.mul_one, ptb_datasA, factsP_datasA, ptb_txA, factsP_txA, itCells, ptb_fam, factsP_fam, ptb_learnA, factsP_learnA, mgrL, EntM.parts, EntM.cells] at cs
      go_wp2_with fail
      go_roundw
      case rel => exact ⟨r + 1, _, by omega, by go_num, rfl, O, HE3⟩
      case measure => simp [intOf]; omega
    · obtain rfl : r = 3 := by omega
      have hd : d = 1 := HE.out.d
      subst hd
      have hdd : dA 3 = 1 := rfl
      rw [hdd]
      have C1 := Lib.hid (fun W (hW : Pre W (mgrL mb mp OA oc [EntM.mk eb lb 1 client m0 m1 m2 A c s ls 1])) => m_Decision W mb mp OA oc [EntM.mk eb lb 1 client m0 m1 m2 A c s ls 1] 0 _ rfl rfl hW)
      simp only at C1
      skip
      have cs := O.facts
      try simp only [factsP, cellsP, roomP, foots_cons, foots_nil, foots_append, foot_pt, ptb, ptb_mapA, foot_mapA, factsP_mapA, foot_bun, List.append_nil, List.nil_append, List.cons_append, List.nodup_cons, List.nodup_nil, List.mem_cons, List.not_mem_nil, List.mem_singleton, List.forall_mem_cons, not_or, not_false_eq_true, and_true, true_and, or_false, false_or, forall_eq_or_imp, forall_eq, implies_true, Nat.zero_add, Nat.reduceAdd, and_assoc, ptb_mapA, factsP_bun, ptb_bun, upd_listA, upd_datasA, upd_txA, upd_mapA, upd_bun, upd_fam, ptb_listA, factsP_listA, Nat.mul_one, ptb_datasA, factsP_datasA, ptb_txA, factsP_txA, itCells, ptb_fam, factsP_fam, ptb_learnA, factsP_learnA, mgrL, EntM.parts, EntM.cells] at cs
      go_wp2_with fail
      first | apply Mem.atCall | apply Mem.atCode | apply Mem.atList
      case h => repeat' (first | (with_reducible exact O) | (with_reducible apply Mem.drew) | (with_reducible apply Mem.drewN) | (with_reducible apply Mem.ext) | (with_reducible apply Mem.alloc) | (with_reducible apply Mem.setCell) | (simp only [ptb, ptb_upd, foots_cons, List.mem_cons, World.size_alloc, size_ext, World.size_setCell, true_or, or_true, eq_self_iff_true, ptb_mapA, ptb_bun, ptb_listA, ptb_datasA, ptb_txA, ptb_fam, ptb_learnA]))
      case' k =>
        intro wa O'
        (try clear O)
        have O := O'
        clear O'
        (first | simp only [sel, rst, List.cons_append, List.nil_append, World.size_alloc, size_ext, World.size_setCell, size_setMap, World.size_drew, size_drewN, upd, List.set_cons_zero, List.set_cons_succ, if_true, if_false, reduceIte, not_false_eq_true, ne_lt0, ne_lt1, ne_lt2, ne_lt3, ne_lt4, upd_listA, upd_datasA, upd_txA, upd_mapA, upd_bun, upd_fam, cs] at O | simp only [sel, rst, List.cons_append, List.nil_append, World.size_alloc, size_ext, World.size_setCell, size_setMap, World.size_drew, size_drewN, upd, List.set_cons_zero, List.set_cons_succ, if_true, if_false, reduceIte, not_false_eq_true, ne_lt0, ne_lt1, ne_lt2, ne_lt3, ne_lt4, upd_listA, upd_datasA, upd_txA, upd_mapA, upd_bun, upd_fam] at O | skip)
        (try clear cs)
        (try clear v1)
        (try clear v2)
        (try clear v3)
      refine (C1.out _ O.preAll).mono ?_
      rintro e wb ⟨rfl, o⟩
      replace O := O.callp [] o
      clear o
      simp only [put, List.nil_append] at O
      have cs := O.facts
      try simp only [factsP, cellsP, roomP, foots_cons, foots_nil, foots_append, foot_pt, ptb, ptb_mapA, foot_mapA, factsP_mapA, foot_bun, List.append_nil, List.nil_append, List.cons_append, List.nodup_cons, List.nodup_nil, List.mem_cons, List.not_mem_nil, List.mem_singleton, List.forall_mem_cons, not_or, not_false_eq_true, and_true, true_and, or_false, false_or, forall_eq_or_imp, forall_eq, implies_true, Nat.zero_add, Nat.reduceAdd, and_assoc, ptb_mapA, factsP_bun, ptb_bun, upd_listA, upd_datasA, upd_txA, upd_mapA, upd_bun, upd_fam, ptb_listA, factsP_listA, Nat.mul_one, ptb_datasA, factsP_datasA, ptb_txA, factsP_txA, itCells, ptb_fam, factsP_fam, ptb_learnA, factsP_learnA, mgrL, EntM.parts, EntM.cells] at cs
      go_wp2_with fail
      go_ret
      exact ⟨rfl, O.fr0⟩
end Go.Proofs.Ytplliabmnhigbaa
