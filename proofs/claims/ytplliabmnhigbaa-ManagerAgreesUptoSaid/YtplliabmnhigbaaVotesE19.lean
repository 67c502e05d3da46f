/- WALK: a manager's 'votes': those that are chosen, of a whole entry. -/
import Derived.Test.YtplliabmnhigbaaVotes19
set_option linter.unusedVariables false
set_option linter.unusedSimpArgs false
namespace Go.Proofs.Ytplliabmnhigbaa
open Go.RowKit Go.Tk
theorem enters_votes1 : ∀ (args : Array Value) (w : World), (callFunc 66 args).run Try.prog w = .ok (.enter 66 args) w := fun args w => by kernel_rfl
/-- what is known of an entry's shape -/
structure EntM.good (E : EntM) : Prop where
  id : (Lit.int .u64 E.id).wf = true
  m0 : (Lit.int .i64 E.m0).wf = true
  m1 : (Lit.int .i64 E.m1).wf = true
  m2 : (Lit.int .i64 E.m2).wf = true
  len : E.s.length ≤ 8
  bk : ∀ x ∈ E.s, 0 ≤ x.bucket ∧ x.bucket < 64
  has : ∀ v ∈ visits E.id E.s, (mget E.ls v.i).isSome = true
def votesQ (E : EntM) (xb lvb : Nat) (A2 : Option Addr) (c2 : Nat) (done : List Visit) (L : List Asn) : Prop :=
  L = [listA 38 4 rowCells A2 c2 (votesAfter (plnOf E.ls) E.s.length done), .pt xb [.pointer (some ⟨E.eb, 0, none⟩)] 98, .pt lvb [.slice A2 E.s.length c2] 27, .pt E.eb E.cells 101, mapA instKey ptrV E.lb (E.ls.map lnPtr), fam lnF E.ls, txA E.A E.c E.s]
theorem votesQ_read {E : EntM} {xb lvb : Nat} {A2 : Option Addr} {c2 : Nat} : EachRead E.eb E.id E.A E.c E.s (votesQ E xb lvb A2 c2) := by
  rintro done L rfl W hW
  have ht : (txA E.A E.c E.s).holds W := hW.hold _ (by simp)
  have hi : (itemsA E.A E.c E.s).holds W := ht _ (by simp [txL])
  refine ⟨roomP_of (hW.lt E.eb (by simp [foots_cons, foot_pt])), ?_, ?_, listA_atl itLen hi⟩
  · exact hW.ptCell (b := E.eb) (j := 0) (t := 101) (cs := E.cells) (by simp) rfl
  · exact hW.ptCell (b := E.eb) (j := 5) (t := 101) (cs := E.cells) (by simp) rfl
theorem visit_wf {E : EntM} (hg : E.good) {v : Visit} (h : v ∈ visits E.id E.s) : v.i.wf ∧ v.k < E.s.length ∧ v.r < 4 := by
  obtain ⟨x, hx, hr, _, hi⟩ := visits_mem h
  have hxb := hg.bk x (List.mem_of_getElem? hx)
  refine ⟨?_, (List.getElem?_eq_some_iff.1 hx).1, hr⟩
  rw [hi]
  exact instWf hg.id (by simp [Lit.wf, IntKind.min, IntKind.max, IntKind.signed, IntKind.bits]; omega) (by omega)
theorem votes_step (E : EntM) (hg : E.good) (xb lvb : Nat) (A2 : Option Addr) (c2 : Nat) :
    ∀ done v rest, visits E.id E.s = done ++ v :: rest → ∀ L W, votesQ E xb lvb A2 c2 done L → Pre W L → Calls Try.prog 66 (#[.int .i64 v.k, .int .i64 v.r, v.i.val] ++ #[.pointer (some ⟨xb, 0, none⟩), .pointer (some ⟨lvb, 0, none⟩)]) W (fun e W' => e = .returned (.tuple #[]) ∧ ∃ L', votesQ E xb lvb A2 c2 (done ++ [v]) L' ∧ Mem W (foots L) W' L') := by
  rintro done v rest hv L W rfl hW
  have hmem : v ∈ visits E.id E.s := by rw [hv]; simp
  obtain ⟨hwf, hk, hr⟩ := visit_wf hg hmem
  obtain ⟨x, hx⟩ := Option.isSome_iff_exists.1 (hg.has v hmem)
  refine (m_votes1 W xb lvb E.eb E.lb A2 c2 E.s.length _ E.id E.client E.m0 E.m1 E.m2 E.A E.c E.s.length E.d E.ls (txA E.A E.c E.s) v x hx hwf hk hr (votesAfter_len _ _ _) (by have := hg.len; omega) hW).mono ?_
  rintro e W' ⟨rfl, O⟩
  refine ⟨rfl, _, rfl, ?_⟩
  unfold votesAfter at O ⊢
  rw [List.foldl_append]
  exact O
set_option maxRecDepth 100000 in
set_option maxHeartbeats 8000000 in
theorem m_votes (w : World) (E : EntM) (hg : E.good) (h : Pre w E.parts) :
    Calls Try.prog 41 #[.pointer (some ⟨E.eb, 0, none⟩)] w (fun e w' => ∃ A2 c2, e = .returned (.slice A2 E.s.length c2) ∧ Mem w (foots E.parts) w' (listA 38 4 rowCells A2 c2 (votesAfter (plnOf E.ls) E.s.length (visits E.id E.s)) :: E.parts)) := by
  have O := h
  unfold Pre at O
  clear h
  generalize foots E.parts = fp at O ⊢
  have HG := Lib.hid hg
  have hl := hg.len
  clear hg
  have CE := Lib.hid (fun W xb lvb A2 c2 L hL (hW : Pre W L) => m_each W E.eb E.id E.A E.c E.s (by omega) (votesQ E xb lvb A2 c2) votesQ_read 66 enters_votes1 #[.pointer (some ⟨xb, 0, none⟩), .pointer (some ⟨lvb, 0, none⟩)] L hL hW (votes_step E HG.out xb lvb A2 c2))
  have hmf : ∀ (fn : Fn) (first cap : Array Value) (w : World), (Instr.makeFunc fn first cap).run Try.prog w = .ok (.func fn first cap) w := fun _ _ _ _ => rfl
  simp only [EntM.parts, EntM.cells] at O ⊢
  simp only [votesQ, EntM.cells] at CE
  skip
  go_enter Try.func41, Try.ntmps41
  have cs := O.facts
  try simp only [factsP, cellsP, roomP, foots_cons, foots_nil, foots_append, foot_pt, ptb, ptb_mapA, foot_mapA, factsP_mapA, foot_bun, List.append_nil, List.nil_append, List.cons_append, List.nodup_cons, List.nodup_nil, List.mem_cons, List.not_mem_nil, List.mem_singleton, List.forall_mem_cons, not_or, not_false_eq_true, and_true, true_and, or_false, false_or, forall_eq_or_imp, forall_eq, implies_true, Nat.zero_add, Nat.reduceAdd, and_assoc, ptb_mapA, factsP_bun, ptb_bun, upd_listA, upd_datasA, upd_txA, upd_mapA, upd_bun, upd_fam, ptb_listA, factsP_listA, Nat.mul_one, ptb_datasA, factsP_datasA, ptb_txA, factsP_txA, itCells, ptb_fam, factsP_fam, ptb_learnA, factsP_learnA, rowCells] at cs
  go_upto_region 1 with fail
  first | apply Mem.atCall | apply Mem.atCode | apply Mem.atList
  case h => repeat' (first | (with_reducible exact O) | (with_reducible apply Mem.drew) | (with_reducible apply Mem.drewN) | (with_reducible apply Mem.ext) | (with_reducible apply Mem.alloc) | (with_reducible apply Mem.setCell) | (simp only [ptb, ptb_upd, foots_cons, List.mem_cons, World.size_alloc, size_ext, World.size_setCell, true_or, or_true, eq_self_iff_true, ptb_mapA, ptb_bun, ptb_listA, ptb_datasA, ptb_txA, ptb_fam, ptb_learnA]))
  case' k =>
    intro w1 O'
    (try clear O)
    have O := O'
    clear O'
    (first | simp only [sel, rst, List.cons_append, List.nil_append, World.size_alloc, size_ext, World.size_setCell, size_setMap, World.size_drew, size_drewN, upd, List.set_cons_zero, List.set_cons_succ, if_true, if_false, reduceIte, not_false_eq_true, ne_lt0, ne_lt1, ne_lt2, ne_lt3, ne_lt4, upd_listA, upd_datasA, upd_txA, upd_mapA, upd_bun, upd_fam, cs] at O | simp only [sel, rst, List.cons_append, List.nil_append, World.size_alloc, size_ext, World.size_setCell, size_setMap, World.size_drew, size_drewN, upd, List.set_cons_zero, List.set_cons_succ, if_true, if_false, reduceIte, not_false_eq_true, ne_lt0, ne_lt1, ne_lt2, ne_lt3, ne_lt4, upd_listA, upd_datasA, upd_txA, upd_mapA, upd_bun, upd_fam] at O | skip)
    (try clear cs)
    (try clear v1)
    (try clear v2)
    (try clear v3)
  generalize w.heap.size = xb at O ⊢
  obtain ⟨o, hmk, hM⟩ := rowTy.made w1 E.s.length (by omega)
  obtain ⟨eb, lb, id, client, m0, m1, m2, A, c, s, ls, d⟩ := E
  simp only at O hmk hM CE hl ⊢
  have cs := O.facts
  try simp only [factsP, cellsP, roomP, foots_cons, foots_nil, foots_append, foot_pt, ptb, ptb_mapA, foot_mapA, factsP_mapA, foot_bun, List.append_nil, List.nil_append, List.cons_append, List.nodup_cons, List.nodup_nil, List.mem_cons, List.not_mem_nil, List.mem_singleton, List.forall_mem_cons, not_or, not_false_eq_true, and_true, true_and, or_false, false_or, forall_eq_or_imp, forall_eq, implies_true, Nat.zero_add, Nat.reduceAdd, and_assoc, ptb_mapA, factsP_bun, ptb_bun, upd_listA, upd_datasA, upd_txA, upd_mapA, upd_bun, upd_fam, ptb_listA, factsP_listA, Nat.mul_one, ptb_datasA, factsP_datasA, ptb_txA, factsP_txA, itCells, ptb_fam, factsP_fam, ptb_learnA, factsP_learnA, rowCells] at cs
  go_upto_region 2 with fail
  replace O := (hM _ _ _ O).alloc [.slice (some ⟨w1.heap.size, 0, none⟩) s.length s.length] 27
  refine Mem.atCode O ?_
  clear O hM hmk cs
  intro w2 O
  have hsz : (w1.alloc o).heap.size = w1.heap.size + 1 := by simp
  try rw [hsz]
  rw [hsz] at O
  generalize w1.heap.size = A2 at O ⊢
  generalize A2 + 1 = lvb at O ⊢
  clear hsz
  replace O := (((((((O).front [false, false, false, false, true]).front [false, false, false, false, false, false, true]).front [false, false, false, false, false, false, true]).front [false, false, false, false, false, false, true]).front [false, false, false, false, true]).front [false, false, false, false, false, false, true]).front [false, false, false, false, false, false, true]
  simp only [Tk.sel, rst, List.cons_append, List.nil_append] at O
  replace O := O.sel [true, true, true, true, true, true, true]
  simp only [Tk.sel] at O
  skip
  have cs := O.facts
  try simp only [factsP, cellsP, roomP, foots_cons, foots_nil, foots_append, foot_pt, ptb, ptb_mapA, foot_mapA, factsP_mapA, foot_bun, List.append_nil, List.nil_append, List.cons_append, List.nodup_cons, List.nodup_nil, List.mem_cons, List.not_mem_nil, List.mem_singleton, List.forall_mem_cons, not_or, not_false_eq_true, and_true, true_and, or_false, false_or, forall_eq_or_imp, forall_eq, implies_true, Nat.zero_add, Nat.reduceAdd, and_assoc, ptb_mapA, factsP_bun, ptb_bun, upd_listA, upd_datasA, upd_txA, upd_mapA, upd_bun, upd_fam, ptb_listA, factsP_listA, Nat.mul_one, ptb_datasA, factsP_datasA, ptb_txA, factsP_txA, itCells, ptb_fam, factsP_fam, ptb_learnA, factsP_learnA, rowCells] at cs
  go_wp2_with fail
  refine (CE.out w2 xb lvb (some ⟨A2, 0, none⟩) s.length _ rfl O.preAll).mono ?_
  rintro e w3 ⟨rfl, L', rfl, o⟩
  replace O := O.callAll o
  clear o CE
  have cs := O.facts
  try simp only [factsP, cellsP, roomP, foots_cons, foots_nil, foots_append, foot_pt, ptb, ptb_mapA, foot_mapA, factsP_mapA, foot_bun, List.append_nil, List.nil_append, List.cons_append, List.nodup_cons, List.nodup_nil, List.mem_cons, List.not_mem_nil, List.mem_singleton, List.forall_mem_cons, not_or, not_false_eq_true, and_true, true_and, or_false, false_or, forall_eq_or_imp, forall_eq, implies_true, Nat.zero_add, Nat.reduceAdd, and_assoc, ptb_mapA, factsP_bun, ptb_bun, upd_listA, upd_datasA, upd_txA, upd_mapA, upd_bun, upd_fam, ptb_listA, factsP_listA, Nat.mul_one, ptb_datasA, factsP_datasA, ptb_txA, factsP_txA, itCells, ptb_fam, factsP_fam, ptb_learnA, factsP_learnA, rowCells] at cs
  go_wp2_with fail
  go_ret
  exact ⟨some ⟨A2, 0, none⟩, s.length, rfl, by
    replace O := (((((O).front [false, false, false, false, false, true]).front [false, false, false, false, false, true]).front [false, false, false, false, false, false, true]).front [false, false, false, false, false, false, true]).front [false, false, false, false, true]
    simp only [Tk.sel, rst, List.cons_append, List.nil_append] at O
    replace O := O.sel [true, true, true, true, true]
    simp only [Tk.sel] at O
    exact O⟩
end Go.Proofs.Ytplliabmnhigbaa
