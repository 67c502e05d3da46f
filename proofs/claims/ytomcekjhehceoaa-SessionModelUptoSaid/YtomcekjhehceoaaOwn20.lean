/- WALK: the document's Own: a transaction in new memory. The ops of a script. -/
import Derived.Test.YtomcekjhehceoaaSesQ20
import Derived.Test.YtomcekjhehceoaaRead20
set_option linter.unusedVariables false
set_option linter.unusedSimpArgs false
namespace Go.Proofs.Ytomcekjhehceoaa
open Go.RowKit Go.Tk
set_option maxRecDepth 100000 in
set_option maxHeartbeats 8000000 in
theorem q_Own (w : World) (id client m0 m1 m2 : Int) (A : Option Addr) (c n : Nat) (s : List ItS) (hn : s.length = n) (h : At 8 itCells w A s) (he : ∀ x ∈ s, Ents w (.slice x.B x.ents.length x.d) x.ents) (hl : n ≤ 1000) :
    Calls Try.prog 24 #[txV id client m0 m1 m2 A n c] w (fun e w' => ∃ A' c' s', e = .returned (txV id client m0 m1 m2 A' n c') ∧ s'.map ItS.core = s.map ItS.core ∧ Mem w [] w' [itemsA A' c' s', datasA s']) := by
  have O : Mem w [] w [] := Mem.begin
  have HN := Lib.hid hn
  have HA := Lib.hid h
  have HE := Lib.hid he
  clear h he hn
  simp only [txV]
  go_enter Try.func24, Try.ntmps24
  skip
  have cs := O.facts
  try simp only [factsP, cellsP, roomP, foots_cons, foots_nil, foots_append, foot_pt, ptb, ptb_mapA, foot_mapA, factsP_mapA, foot_bun, List.append_nil, List.nil_append, List.cons_append, List.nodup_cons, List.nodup_nil, List.mem_cons, List.not_mem_nil, List.mem_singleton, List.forall_mem_cons, not_or, not_false_eq_true, and_true, true_and, or_false, false_or, forall_eq_or_imp, forall_eq, implies_true, Nat.zero_add, Nat.reduceAdd, and_assoc, upd_listA, upd_mapA, upd_bun, upd_fam, upd_datasA, ptb_datasA, factsP_datasA, ptb_listA, factsP_listA, factsP_mapA, ptb_mapA, Nat.mul_one, factsP_bun, ptb_bun, ptb_fam, factsP_fam, factsP_errA, ptb_errA, upd_errA, itCells] at cs
  go_upto_region 1 with fail
  first | apply Mem.atCall | apply Mem.atCode | apply Mem.atList
  case h => repeat' (first | (with_reducible exact O) | (with_reducible apply Mem.drew) | (with_reducible apply Mem.drewN) | (with_reducible apply Mem.ext) | (with_reducible apply Mem.alloc) | (with_reducible apply Mem.setCell) | (simp only [ptb, ptb_upd, foots_cons, List.mem_cons, World.size_alloc, size_ext, World.size_setCell, true_or, or_true, eq_self_iff_true, ptb_datasA, ptb_listA, ptb_mapA, ptb_bun, ptb_fam, ptb_errA]))
  case' k =>
    intro w1 O'
    (try clear O)
    have O := O'
    clear O'
    (first | simp only [sel, rst, List.cons_append, List.nil_append, World.size_alloc, size_ext, World.size_setCell, size_setMap, World.size_drew, size_drewN, upd, List.set_cons_zero, List.set_cons_succ, if_true, if_false, reduceIte, not_false_eq_true, ne_lt0, ne_lt1, ne_lt2, ne_lt3, ne_lt4, upd_listA, upd_mapA, upd_bun, upd_fam, upd_datasA, upd_errA, cs] at O | simp only [sel, rst, List.cons_append, List.nil_append, World.size_alloc, size_ext, World.size_setCell, size_setMap, World.size_drew, size_drewN, upd, List.set_cons_zero, List.set_cons_succ, if_true, if_false, reduceIte, not_false_eq_true, ne_lt0, ne_lt1, ne_lt2, ne_lt3, ne_lt4, upd_listA, upd_mapA, upd_bun, upd_fam, upd_datasA, upd_errA] at O | skip)
    (try clear cs)
    (try clear v1)
    (try clear v2)
    (try clear v3)
  generalize hb1 : w.heap.size = b1 at O ⊢
  generalize b1 + 1 = b2 at O ⊢
  clear hb1
  have cs := O.facts
  try simp only [factsP, cellsP, roomP, foots_cons, foots_nil, foots_append, foot_pt, ptb, ptb_mapA, foot_mapA, factsP_mapA, foot_bun, List.append_nil, List.nil_append, List.cons_append, List.nodup_cons, List.nodup_nil, List.mem_cons, List.not_mem_nil, List.mem_singleton, List.forall_mem_cons, not_or, not_false_eq_true, and_true, true_and, or_false, false_or, forall_eq_or_imp, forall_eq, implies_true, Nat.zero_add, Nat.reduceAdd, and_assoc, upd_listA, upd_mapA, upd_bun, upd_fam, upd_datasA, ptb_datasA, factsP_datasA, ptb_listA, factsP_listA, factsP_mapA, ptb_mapA, Nat.mul_one, factsP_bun, ptb_bun, ptb_fam, factsP_fam, factsP_errA, ptb_errA, upd_errA, itCells] at cs
  go_wp2_with fail
  clear cs
  go_loopw [3, 4] (fun s3 s4 wr => ∃ (k : Nat) (A2 : Option Addr) (c2 : Nat) (s2 : List ItS), k ≤ n ∧ s4 = .int .i64 k ∧ s3 = .slice A2 s2.length c2 ∧ Mem w [] wr [itemsA A2 c2 s2, datasA s2, .pt b2 [.int .u64 0, .int .i64 0, .int .i64 0, .int .i64 0, .int .i64 0, .slice none 0 0] 45, .pt b1 [.int .u64 id, .int .i64 client, .int .i64 m0, .int .i64 m1, .int .i64 m2, .slice A n c] 45] ∧ Hid (s2.map ItS.core = (s.take k).map ItS.core ∧ s2.length = k)) (fun _ s4 _ => n - (intOf s4).toNat)
  case atStart =>
    refine ⟨0, none, 0, [], by omega, rfl, rfl, ?_, Lib.hid ⟨rfl, rfl⟩⟩
    have O2 := (Mem.dataNil O).listNil (e := 36) (size := 8) (cs := itCells)
    exact O2
  case round =>
    clear O
    obtain ⟨k, A2, c2, s2, hk, rfl, rfl, O, HI⟩ := hrel
    have hs2 : s2.length ≤ 1000 := by have := HI.out.2; omega
    by_cases hlt : k < n
    · have hlti : (k : Int) < n := by omega
      have hks : k < s.length := by rw [HN.out]; exact hlt
      obtain ⟨x, hx⟩ : ∃ x, s[k]? = some x := ⟨_, List.getElem?_eq_getElem hks⟩
      have hen := HE.out x (List.mem_of_getElem? hx)
      obtain ⟨b, off, rfl, hb, hq⟩ := HA.out k _ hx
      have htk : (s.take (k + 1)).map ItS.core = (s.take k).map ItS.core ++ [x.core] := by
        rw [List.take_succ_eq_append_getElem hks, List.map_append, (List.getElem?_eq_some_iff.1 hx).2]
        rfl
      have HTK := Lib.hid htk
      have HQ := Lib.hid (And.intro hb hq)
      have HEN := Lib.hid hen
      clear hx hb hq hen htk hks
      obtain ⟨xb, xv, xw, xB, xd, xe, xi⟩ := x
      simp only [itCells] at HQ
      simp only at HEN
      have hxe : xe.length ≤ 1048576 := HEN.out.1
      skip
      have cs := O.facts
      try simp only [factsP, cellsP, roomP, foots_cons, foots_nil, foots_append, foot_pt, ptb, ptb_mapA, foot_mapA, factsP_mapA, foot_bun, List.append_nil, List.nil_append, List.cons_append, List.nodup_cons, List.nodup_nil, List.mem_cons, List.not_mem_nil, List.mem_singleton, List.forall_mem_cons, not_or, not_false_eq_true, and_true, true_and, or_false, false_or, forall_eq_or_imp, forall_eq, implies_true, Nat.zero_add, Nat.reduceAdd, and_assoc, upd_listA, upd_mapA, upd_bun, upd_fam, upd_datasA, ptb_datasA, factsP_datasA, ptb_listA, factsP_listA, factsP_mapA, ptb_mapA, Nat.mul_one, factsP_bun, ptb_bun, ptb_fam, factsP_fam, factsP_errA, ptb_errA, upd_errA, itCells] at cs
      try have v1 := (arg_view HQ.out.1 HQ.out.2 O.fr)
      try simp only [cellsQ, roomP, and_assoc, and_true, true_and, Nat.add_zero, Nat.zero_add, Nat.reduceAdd, factsP, cellsP, roomP, foots_cons, foots_nil, foots_append, foot_pt, ptb, ptb_mapA, foot_mapA, factsP_mapA, foot_bun, List.append_nil, List.nil_append, List.cons_append, List.nodup_cons, List.nodup_nil, List.mem_cons, List.not_mem_nil, List.mem_singleton, List.forall_mem_cons, not_or, not_false_eq_true, and_true, true_and, or_false, false_or, forall_eq_or_imp, forall_eq, implies_true, Nat.zero_add, Nat.reduceAdd, and_assoc, upd_listA, upd_mapA, upd_bun, upd_fam, upd_datasA, ptb_datasA, factsP_datasA, ptb_listA, factsP_listA, factsP_mapA, ptb_mapA, Nat.mul_one, factsP_bun, ptb_bun, ptb_fam, factsP_fam, factsP_errA, ptb_errA, upd_errA, itCells] at v1
      go_upto_region 7 with fail
      first | apply Mem.atCall | apply Mem.atCode | apply Mem.atList
      case h => repeat' (first | (with_reducible exact O) | (with_reducible apply Mem.drew) | (with_reducible apply Mem.drewN) | (with_reducible apply Mem.ext) | (with_reducible apply Mem.alloc) | (with_reducible apply Mem.setCell) | (simp only [ptb, ptb_upd, foots_cons, List.mem_cons, World.size_alloc, size_ext, World.size_setCell, true_or, or_true, eq_self_iff_true, ptb_datasA, ptb_listA, ptb_mapA, ptb_bun, ptb_fam, ptb_errA]))
      case' k =>
        intro w5 O'
        (try clear O)
        have O := O'
        clear O'
        (first | simp only [sel, rst, List.cons_append, List.nil_append, World.size_alloc, size_ext, World.size_setCell, size_setMap, World.size_drew, size_drewN, upd, List.set_cons_zero, List.set_cons_succ, if_true, if_false, reduceIte, not_false_eq_true, ne_lt0, ne_lt1, ne_lt2, ne_lt3, ne_lt4, upd_listA, upd_mapA, upd_bun, upd_fam, upd_datasA, upd_errA, cs] at O | simp only [sel, rst, List.cons_append, List.nil_append, World.size_alloc, size_ext, World.size_setCell, size_setMap, World.size_drew, size_drewN, upd, List.set_cons_zero, List.set_cons_succ, if_true, if_false, reduceIte, not_false_eq_true, ne_lt0, ne_lt1, ne_lt2, ne_lt3, ne_lt4, upd_listA, upd_mapA, upd_bun, upd_fam, upd_datasA, upd_errA] at O | skip)
        (try clear cs)
        (try clear v1)
        (try clear v2)
        (try clear v3)
      generalize wr.heap.size = xb2 at O ⊢
      have OL : Mem w [] w5 (entsA none 0 [] :: _) := O.listNil
      skip
      have cs := O.facts
      simp only [factsP, cellsP, roomP, foots_cons, foots_nil, foots_append, foot_pt, ptb, ptb_mapA, foot_mapA, factsP_mapA, foot_bun, List.append_nil, List.nil_append, List.cons_append, List.nodup_cons, List.nodup_nil, List.mem_cons, List.not_mem_nil, List.mem_singleton, List.forall_mem_cons, not_or, not_false_eq_true, and_true, true_and, or_false, false_or, forall_eq_or_imp, forall_eq, implies_true, Nat.zero_add, Nat.reduceAdd, and_assoc, upd_listA, upd_mapA, upd_bun, upd_fam, upd_datasA, ptb_datasA, factsP_datasA, ptb_listA, factsP_listA, factsP_mapA, ptb_mapA, Nat.mul_one, factsP_bun, ptb_bun, ptb_fam, factsP_fam, factsP_errA, ptb_errA, upd_errA, itCells] at cs
      go_upto_region 8 with (at_builtin; refine entTy.wl_app OL rfl rfl rfl rfl xe rfl rfl (src_of entLen (ents_at (HEN.out.fr O.fr)) (by omega)) (by simp; omega) ?_; intro A3 c3 w6 O6; have cs6 := O6.facts; simp only [factsP, cellsP, roomP, foots_cons, foots_nil, foots_append, foot_pt, ptb, ptb_mapA, foot_mapA, factsP_mapA, foot_bun, List.append_nil, List.nil_append, List.cons_append, List.nodup_cons, List.nodup_nil, List.mem_cons, List.not_mem_nil, List.mem_singleton, List.forall_mem_cons, not_or, not_false_eq_true, and_true, true_and, or_false, false_or, forall_eq_or_imp, forall_eq, implies_true, Nat.zero_add, Nat.reduceAdd, and_assoc, upd_listA, upd_mapA, upd_bun, upd_fam, upd_datasA, ptb_datasA, factsP_datasA, ptb_listA, factsP_listA, factsP_mapA, ptb_mapA, Nat.mul_one, factsP_bun, ptb_bun, ptb_fam, factsP_fam, factsP_errA, ptb_errA, upd_errA, itCells] at cs6)
      clear O OL cs cs6
      have O := O6
      clear O6
      simp only [List.nil_append] at O
      first | apply Mem.atCall | apply Mem.atCode | apply Mem.atList
      case h => repeat' (first | (with_reducible exact O) | (with_reducible apply Mem.drew) | (with_reducible apply Mem.drewN) | (with_reducible apply Mem.ext) | (with_reducible apply Mem.alloc) | (with_reducible apply Mem.setCell) | (simp only [ptb, ptb_upd, foots_cons, List.mem_cons, World.size_alloc, size_ext, World.size_setCell, true_or, or_true, eq_self_iff_true, ptb_datasA, ptb_listA, ptb_mapA, ptb_bun, ptb_fam, ptb_errA]))
      case' k =>
        intro w7 O'
        (try clear O)
        have O := O'
        clear O'
        (first | simp only [sel, rst, List.cons_append, List.nil_append, World.size_alloc, size_ext, World.size_setCell, size_setMap, World.size_drew, size_drewN, upd, List.set_cons_zero, List.set_cons_succ, if_true, if_false, reduceIte, not_false_eq_true, ne_lt0, ne_lt1, ne_lt2, ne_lt3, ne_lt4, upd_listA, upd_mapA, upd_bun, upd_fam, upd_datasA, upd_errA, cs] at O | simp only [sel, rst, List.cons_append, List.nil_append, World.size_alloc, size_ext, World.size_setCell, size_setMap, World.size_drew, size_drewN, upd, List.set_cons_zero, List.set_cons_succ, if_true, if_false, reduceIte, not_false_eq_true, ne_lt0, ne_lt1, ne_lt2, ne_lt3, ne_lt4, upd_listA, upd_mapA, upd_bun, upd_fam, upd_datasA, upd_errA] at O | skip)
        (try clear cs)
        (try clear v1)
        (try clear v2)
        (try clear v3)
      have cs := O.facts
      try simp only [factsP, cellsP, roomP, foots_cons, foots_nil, foots_append, foot_pt, ptb, ptb_mapA, foot_mapA, factsP_mapA, foot_bun, List.append_nil, List.nil_append, List.cons_append, List.nodup_cons, List.nodup_nil, List.mem_cons, List.not_mem_nil, List.mem_singleton, List.forall_mem_cons, not_or, not_false_eq_true, and_true, true_and, or_false, false_or, forall_eq_or_imp, forall_eq, implies_true, Nat.zero_add, Nat.reduceAdd, and_assoc, upd_listA, upd_mapA, upd_bun, upd_fam, upd_datasA, ptb_datasA, factsP_datasA, ptb_listA, factsP_listA, factsP_mapA, ptb_mapA, Nat.mul_one, factsP_bun, ptb_bun, ptb_fam, factsP_fam, factsP_errA, ptb_errA, upd_errA, itCells] at cs
      go_wp2_with ((at_builtin; refine itTy.wl_app ((O.alloc (itCells (ItS.mk xb xv xw A3 c3 xe xi)) 36).front1 [false, false, false, true] rfl) rfl rfl (by simp) rfl [(ItS.mk xb xv xw A3 c3 xe xi)] rfl rfl (src_one (x := (ItS.mk xb xv xw A3 c3 xe xi)) (fun _ => rfl) (O.alloc (itCells (ItS.mk xb xv xw A3 c3 xe xi)) 36) (List.mem_cons_self ..)) (by first | (simp; done) | (simp; omega)) ?_; intro A4 c4 wc O4; have cs1 := O4.facts; simp only [rst, factsP, cellsP, roomP, foots_cons, foots_nil, foots_append, foot_pt, ptb, ptb_mapA, foot_mapA, factsP_mapA, foot_bun, List.append_nil, List.nil_append, List.cons_append, List.nodup_cons, List.nodup_nil, List.mem_cons, List.not_mem_nil, List.mem_singleton, List.forall_mem_cons, not_or, not_false_eq_true, and_true, true_and, or_false, false_or, forall_eq_or_imp, forall_eq, implies_true, Nat.zero_add, Nat.reduceAdd, and_assoc, upd_listA, upd_mapA, upd_bun, upd_fam, upd_datasA, ptb_datasA, factsP_datasA, ptb_listA, factsP_listA, factsP_mapA, ptb_mapA, Nat.mul_one, factsP_bun, ptb_bun, ptb_fam, factsP_fam, factsP_errA, ptb_errA, upd_errA, itCells] at cs1))
      clear cs O
      have cs := cs1
      clear cs1
      have O := O4.unfront
      simp only [put, List.cons_append, List.nil_append] at O
      clear O4
      replace O := O.sel [false, true, false, true, true, true, true]
      simp only [Tk.sel] at O
      replace O := (((((O).front [false, false, false, false, true]).front [false, false, false, false, true]).front [false, false, false, true]).front [false, false, false, false, true]).front [false, false, false, false, true]
      simp only [Tk.sel, rst, List.cons_append, List.nil_append] at O
      replace O := O.sel [true, true, true, true, true]
      simp only [Tk.sel] at O
      have O2 := Mem.dataMore (x := ItS.mk xb xv xw A3 c3 xe xi) O ⟨HEN.out.2.1, HEN.out.1⟩
      clear O
      have O := O2
      clear O2
      replace O := ((((O).front [false, false, false, true]).front [false, false, false, true]).front [false, false, true]).front [false, false, false, true]
      simp only [Tk.sel, rst, List.cons_append, List.nil_append] at O
      replace O := O.sel [true, true, true, true]
      simp only [Tk.sel] at O
      go_roundw
      case rel => exact ⟨k + 1, A4, c4, _, by omega, by go_num, by simp, O, Lib.hid ⟨by rw [List.map_append, HI.out.1, HTK.out]; rfl, by rw [List.length_append, HI.out.2]; rfl⟩⟩
      case measure => simp [intOf]; omega
    · obtain rfl : k = n := by omega
      have hcore : s2.map ItS.core = s.map ItS.core := by
        rw [HI.out.1, List.take_of_length_le (by rw [HN.out]; exact Nat.le_refl _)]
      have HCORE := Lib.hid hcore
      have HL := Lib.hid HI.out.2
      clear hcore
      skip
      have cs := O.facts
      try simp only [factsP, cellsP, roomP, foots_cons, foots_nil, foots_append, foot_pt, ptb, ptb_mapA, foot_mapA, factsP_mapA, foot_bun, List.append_nil, List.nil_append, List.cons_append, List.nodup_cons, List.nodup_nil, List.mem_cons, List.not_mem_nil, List.mem_singleton, List.forall_mem_cons, not_or, not_false_eq_true, and_true, true_and, or_false, false_or, forall_eq_or_imp, forall_eq, implies_true, Nat.zero_add, Nat.reduceAdd, and_assoc, upd_listA, upd_mapA, upd_bun, upd_fam, upd_datasA, ptb_datasA, factsP_datasA, ptb_listA, factsP_listA, factsP_mapA, ptb_mapA, Nat.mul_one, factsP_bun, ptb_bun, ptb_fam, factsP_fam, factsP_errA, ptb_errA, upd_errA, itCells] at cs
      go_upto_region 10 with fail
      first | apply Mem.atCall | apply Mem.atCode | apply Mem.atList
      case h => repeat' (first | (with_reducible exact O) | (with_reducible apply Mem.drew) | (with_reducible apply Mem.drewN) | (with_reducible apply Mem.ext) | (with_reducible apply Mem.alloc) | (with_reducible apply Mem.setCell) | (simp only [ptb, ptb_upd, foots_cons, List.mem_cons, World.size_alloc, size_ext, World.size_setCell, true_or, or_true, eq_self_iff_true, ptb_datasA, ptb_listA, ptb_mapA, ptb_bun, ptb_fam, ptb_errA]))
      case' k =>
        intro w5 O'
        (try clear O)
        have O := O'
        clear O'
        (first | simp only [sel, rst, List.cons_append, List.nil_append, World.size_alloc, size_ext, World.size_setCell, size_setMap, World.size_drew, size_drewN, upd, List.set_cons_zero, List.set_cons_succ, if_true, if_false, reduceIte, not_false_eq_true, ne_lt0, ne_lt1, ne_lt2, ne_lt3, ne_lt4, upd_listA, upd_mapA, upd_bun, upd_fam, upd_datasA, upd_errA, cs] at O | simp only [sel, rst, List.cons_append, List.nil_append, World.size_alloc, size_ext, World.size_setCell, size_setMap, World.size_drew, size_drewN, upd, List.set_cons_zero, List.set_cons_succ, if_true, if_false, reduceIte, not_false_eq_true, ne_lt0, ne_lt1, ne_lt2, ne_lt3, ne_lt4, upd_listA, upd_mapA, upd_bun, upd_fam, upd_datasA, upd_errA] at O | skip)
        (try clear cs)
        (try clear v1)
        (try clear v2)
        (try clear v3)
      rw [HL.out] at O
      go_cut [] (fun wc => Mem w [] wc [itemsA A2 c2 s2, datasA s2, .pt b2 [.int .u64 id, .int .i64 client, .int .i64 m0, .int .i64 m1, .int .i64 m2, .slice A2 k c2] 45])
      case first =>
        have cs := O.facts
        try simp only [factsP, cellsP, roomP, foots_cons, foots_nil, foots_append, foot_pt, ptb, ptb_mapA, foot_mapA, factsP_mapA, foot_bun, List.append_nil, List.nil_append, List.cons_append, List.nodup_cons, List.nodup_nil, List.mem_cons, List.not_mem_nil, List.mem_singleton, List.forall_mem_cons, not_or, not_false_eq_true, and_true, true_and, or_false, false_or, forall_eq_or_imp, forall_eq, implies_true, Nat.zero_add, Nat.reduceAdd, and_assoc, upd_listA, upd_mapA, upd_bun, upd_fam, upd_datasA, ptb_datasA, factsP_datasA, ptb_listA, factsP_listA, factsP_mapA, ptb_mapA, Nat.mul_one, factsP_bun, ptb_bun, ptb_fam, factsP_fam, factsP_errA, ptb_errA, upd_errA, itCells] at cs
        go_wp2_with fail
        go_meet
        apply Mem.to [true, true, true]
        · repeat' (first | (with_reducible exact O) | (with_reducible apply Mem.drew) | (with_reducible apply Mem.drewN) | (with_reducible apply Mem.ext) | (with_reducible apply Mem.alloc) | (with_reducible apply Mem.setCell) | (simp only [ptb, ptb_upd, foots_cons, List.mem_cons, World.size_alloc, size_ext, World.size_setCell, true_or, or_true, eq_self_iff_true, ptb_datasA, ptb_listA, ptb_mapA, ptb_bun, ptb_fam, ptb_errA]))
        · first | with_reducible rfl | (simp only [sel, rst, List.cons_append, List.nil_append, World.size_alloc, size_ext, World.size_setCell, size_setMap, World.size_drew, size_drewN, upd, List.set_cons_zero, List.set_cons_succ, if_true, if_false, reduceIte, not_false_eq_true, ne_lt0, ne_lt1, ne_lt2, ne_lt3, ne_lt4, upd_listA, upd_mapA, upd_bun, upd_fam, upd_datasA, upd_errA, cs]; done) | (simp only [sel, rst, List.cons_append, List.nil_append, World.size_alloc, size_ext, World.size_setCell, size_setMap, World.size_drew, size_drewN, upd, List.set_cons_zero, List.set_cons_succ, if_true, if_false, reduceIte, not_false_eq_true, ne_lt0, ne_lt1, ne_lt2, ne_lt3, ne_lt4, upd_listA, upd_mapA, upd_bun, upd_fam, upd_datasA, upd_errA]; done) | (simp only [sel, rst, List.cons_append, List.nil_append, World.size_alloc, size_ext, World.size_setCell, size_setMap, World.size_drew, size_drewN, upd, List.set_cons_zero, List.set_cons_succ, if_true, if_false, reduceIte, not_false_eq_true, ne_lt0, ne_lt1, ne_lt2, ne_lt3, ne_lt4, upd_listA, upd_mapA, upd_bun, upd_fam, upd_datasA, upd_errA, cs]; rfl) | (simp only [sel, rst, List.cons_append, List.nil_append, World.size_alloc, size_ext, World.size_setCell, size_setMap, World.size_drew, size_drewN, upd, List.set_cons_zero, List.set_cons_succ, if_true, if_false, reduceIte, not_false_eq_true, ne_lt0, ne_lt1, ne_lt2, ne_lt3, ne_lt4, upd_listA, upd_mapA, upd_bun, upd_fam, upd_datasA, upd_errA]; rfl)
      case rest =>
        clear O
        have O := hcut
        clear hcut
        have cs := O.facts
        try simp only [factsP, cellsP, roomP, foots_cons, foots_nil, foots_append, foot_pt, ptb, ptb_mapA, foot_mapA, factsP_mapA, foot_bun, List.append_nil, List.nil_append, List.cons_append, List.nodup_cons, List.nodup_nil, List.mem_cons, List.not_mem_nil, List.mem_singleton, List.forall_mem_cons, not_or, not_false_eq_true, and_true, true_and, or_false, false_or, forall_eq_or_imp, forall_eq, implies_true, Nat.zero_add, Nat.reduceAdd, and_assoc, upd_listA, upd_mapA, upd_bun, upd_fam, upd_datasA, ptb_datasA, factsP_datasA, ptb_listA, factsP_listA, factsP_mapA, ptb_mapA, Nat.mul_one, factsP_bun, ptb_bun, ptb_fam, factsP_fam, factsP_errA, ptb_errA, upd_errA, itCells] at cs
        go_wp2_with fail
        refine bodyPost_ret (v := txV id client m0 m1 m2 A2 k c2) (by simp [results, Try.results24, go_sem, cs, txV]) rfl ⟨A2, c2, s2, rfl, HCORE.out, O.sel [true, true]⟩
/-- an op of a script -/
structure OpR where
  kind : Int
  x : ItS
  A : Option Addr
  c : Nat
  data : List En
  key : ByteArray
  tk : ByteArray
  val : ByteArray
def OpR.cells (o : OpR) : List Value := [.int .i64 o.kind, .int .i64 o.x.bucket, .int .u32 o.x.ver, .bool o.x.write, .slice o.x.B o.x.ents.length o.x.d, .int .u32 (o.x.inc 0), .int .u32 (o.x.inc 1), .int .u32 (o.x.inc 2), .int .u32 (o.x.inc 3), .slice o.A o.data.length o.c, .string o.key, .string o.tk, .string o.val]
structure OpR.ok (W : World) (o : OpR) : Prop where
  x : Ents W (.slice o.x.B o.x.ents.length o.x.d) o.x.ents
  data : Ents W (.slice o.A o.data.length o.c) o.data
  key : o.key.size ≤ 1048576
  tk : o.tk.size ≤ 1048576
  val : o.val.size ≤ 1048576
  wf : (Lit.int .i64 o.x.bucket).wf = true
theorem cells_op : Try.prog.cellsOf 38 = 13 := by kernel_rfl
theorem len13 {l : List Value} (h : l.length = 13) : ∃ a b c d e f g i j k m n o, l = [a, b, c, d, e, f, g, i, j, k, m, n, o] := by
  match l, h with
  | [a, b, c, d, e, f, g, i, j, k, m, n, o], _ => exact ⟨a, b, c, d, e, f, g, i, j, k, m, n, o, rfl⟩
theorem read_op {w : World} {N f : Nat} {cs : List Value} (hN : N ≤ 1048576) (h : Typed Try.prog w N f 38 cs) : ∃ o : OpR, o.ok w ∧ cs = o.cells := by
  obtain ⟨f', hl, hf⟩ := typed_struct Try.underlying38 h
  obtain ⟨c0, c1, c2, c3, c4, c5, c6, c7, c8, c9, c10, c11, c12, rfl⟩ := len13 (hl.trans cells_op)
  have h0 : Typed Try.prog w N f' 3 (([c0, c1, c2, c3, c4, c5, c6, c7, c8, c9, c10, c11, c12].drop 0).take (Try.prog.cellsOf 3)) := hf 0 _ rfl
  have h1 : Typed Try.prog w N f' 36 (([c0, c1, c2, c3, c4, c5, c6, c7, c8, c9, c10, c11, c12].drop 1).take (Try.prog.cellsOf 36)) := hf 1 _ rfl
  have h2 : Typed Try.prog w N f' 33 (([c0, c1, c2, c3, c4, c5, c6, c7, c8, c9, c10, c11, c12].drop 9).take (Try.prog.cellsOf 33)) := hf 2 _ rfl
  have h3 : Typed Try.prog w N f' 9 (([c0, c1, c2, c3, c4, c5, c6, c7, c8, c9, c10, c11, c12].drop 10).take (Try.prog.cellsOf 9)) := hf 3 _ rfl
  have h4 : Typed Try.prog w N f' 9 (([c0, c1, c2, c3, c4, c5, c6, c7, c8, c9, c10, c11, c12].drop 11).take (Try.prog.cellsOf 9)) := hf 4 _ rfl
  have h5 : Typed Try.prog w N f' 9 (([c0, c1, c2, c3, c4, c5, c6, c7, c8, c9, c10, c11, c12].drop 12).take (Try.prog.cellsOf 9)) := hf 5 _ rfl
  simp only [cells_int, cells_item, cells_entries, cells_string] at h0 h1 h2 h3 h4 h5
  simp only [List.drop_succ_cons, List.drop_zero, List.take_succ_cons, List.take_zero] at h0 h1 h2 h3 h4 h5
  obtain ⟨a0, e0, k0⟩ := typed_int Try.underlying3 h0
  obtain ⟨x, hx, hxe, _, hxb, _⟩ := read_item hN h1
  obtain ⟨data, hd⟩ := read_ents hN h2
  obtain ⟨s3, e3, k3⟩ := typed_string Try.underlying9 h3
  obtain ⟨s4, e4, k4⟩ := typed_string Try.underlying9 h4
  obtain ⟨s5, e5, k5⟩ := typed_string Try.underlying9 h5
  obtain ⟨B, d, hxd, _⟩ := hxe.2.2
  obtain ⟨A, c, hv, _⟩ := hd.2.2
  obtain ⟨xb, xv, xw, xd, xe, xi⟩ := x
  simp only at hxd hxe hxb
  subst hxd
  simp only [ItemR.cells, List.cons.injEq, and_true] at hx
  obtain ⟨r1, r2, r3, r4, r5, r6, r7, r8⟩ := hx
  simp only [List.cons.injEq, and_true] at e0 e3 e4 e5
  refine ⟨⟨a0, ⟨xb, xv, xw, B, d, xe, xi⟩, A, c, data, s3, s4, s5⟩, ⟨hxe, by rw [← hv]; exact hd, Nat.le_trans k3 hN, Nat.le_trans k4 hN, Nat.le_trans k5 hN, hxb⟩, ?_⟩
  simp only [OpR.cells, e0, e3, e4, e5, r1, r2, r3, r4, r5, r6, r7, r8, hv]
end Go.Proofs.Ytomcekjhehceoaa
