/- WALK: ONE VALUE IS CHOSEN: the law's world is made; its rounds; what is asked of the learners. -/
import Derived.Test.YtkhpikjmhamppaaOneMake11
import Derived.Test.YtkhpikjmhamppaaPxStep11
set_option linter.unusedVariables false
set_option linter.unusedSimpArgs false
namespace Go.Proofs.Ytkhpikjmhamppaa
open Go.RowKit Go.WideShapes Go.ChangeShapes Go.Tk
set_option maxRecDepth 100000 in
set_option maxHeartbeats 32000000 in
theorem one_walk (w : World) (n0 : Int) (hn0 : inI64 n0) (vote : ByteArray) (V : Value) (l : List Ev) (hl : ArgList w 4 Ev.cells V l) (hok : ∀ e ∈ l, inI64 e.kind ∧ inI64 e.a ∧ inI64 e.b) : Calls Try.prog 7 #[.int .i64 n0, .string vote, V] w (fun e w' => e = .returned (.bool true) ∧ Below w.heap.size w w') := by
  obtain ⟨hlen0, SA, sc, rfl, hlat⟩ := hl
  have HC := Lib.hid hlat
  have HO := Lib.hid hok
  have HL := Lib.hid hlen0
  clear hlat hok hlen0
  have P5 := Lib.hid (fun W => q_pick n0 5 hn0 (by omega) (by omega) W)
  obtain ⟨n, hn⟩ : ∃ n, n = 1 + pickN n0 5 := ⟨_, rfl⟩
  have hn1 : 1 ≤ n := by omega
  have hn5 : n ≤ 5 := by have := pickN_lt (c := n0) (n := 5) (by omega); omega
  have hadd : (1 + (pickN n0 5 : Int)) = (n : Int) := by omega
  have hwr : IntKind.i64.wrap (1 + (pickN n0 5 : Int)) = (n : Int) := by rw [hadd]; simp [IntKind.wrap, IntKind.signed, IntKind.bits]; omega
  generalize pickN n0 5 = p5 at P5 hwr
  clear hn hadd
  have O : Mem w [] w [] := Mem.begin
  go_enter Try.func7, Try.ntmps7
  have cs := O.facts
  simp only [factsP, cellsP, roomP, foots_cons, foots_nil, foots_append, foot_pt, ptb, ptb_mapA, foot_mapA, factsP_mapA, foot_bun, List.append_nil, List.nil_append, List.cons_append, List.nodup_cons, List.nodup_nil, List.mem_cons, List.not_mem_nil, List.mem_singleton, List.forall_mem_cons, not_or, not_false_eq_true, and_true, true_and, or_false, false_or, forall_eq_or_imp, forall_eq, implies_true, Nat.zero_add, Nat.reduceAdd, and_assoc, ptb_listA, factsP_listA, ptb_fam, factsP_fam, ptb_propA, factsP_propA, ptb_learnA, factsP_learnA, ptb_tabA, factsP_tabA, Nat.mul_one, ptrCells, strCells] at cs
  go_wp2_with fail
  first | apply Mem.atCall | apply Mem.atCode | apply Mem.atList
  case h => repeat' (first | (with_reducible exact O) | (with_reducible apply Mem.drew) | (with_reducible apply Mem.drewN) | (with_reducible apply Mem.ext) | (with_reducible apply Mem.alloc) | (with_reducible apply Mem.setCell) | (simp only [ptb, ptb_upd, foots_cons, List.mem_cons, World.size_alloc, size_ext, World.size_setCell, true_or, or_true, eq_self_iff_true, ptb_listA, ptb_fam, ptb_propA, ptb_learnA, ptb_tabA]))
  case' k =>
    intro w1 O'
    (try clear O)
    have O := O'
    clear O'
    (first | simp only [sel, rst, List.cons_append, List.nil_append, World.size_alloc, size_ext, World.size_setCell, size_setMap, World.size_drew, size_drewN, upd, List.set_cons_zero, List.set_cons_succ, if_true, if_false, reduceIte, not_false_eq_true, ne_lt0, ne_lt1, ne_lt2, ne_lt3, ne_lt4, cs] at O | simp only [sel, rst, List.cons_append, List.nil_append, World.size_alloc, size_ext, World.size_setCell, size_setMap, World.size_drew, size_drewN, upd, List.set_cons_zero, List.set_cons_succ, if_true, if_false, reduceIte, not_false_eq_true, ne_lt0, ne_lt1, ne_lt2, ne_lt3, ne_lt4] at O | skip)
    (try clear cs)
    (try clear v1)
    (try clear v2)
    (try clear v3)
  refine (P5.out _).mono ?_
  rintro e w2 ⟨rfl, o⟩
  replace O := O.callp [] o
  clear o
  simp only [put, List.cons_append, List.nil_append] at O
  clear P5
  try simp only [List.nil_append] at O
  have cs := O.facts
  simp only [factsP, cellsP, roomP, foots_cons, foots_nil, foots_append, foot_pt, ptb, ptb_mapA, foot_mapA, factsP_mapA, foot_bun, List.append_nil, List.nil_append, List.cons_append, List.nodup_cons, List.nodup_nil, List.mem_cons, List.not_mem_nil, List.mem_singleton, List.forall_mem_cons, not_or, not_false_eq_true, and_true, true_and, or_false, false_or, forall_eq_or_imp, forall_eq, implies_true, Nat.zero_add, Nat.reduceAdd, and_assoc, ptb_listA, factsP_listA, ptb_fam, factsP_fam, ptb_propA, factsP_propA, ptb_learnA, factsP_learnA, ptb_tabA, factsP_tabA, Nat.mul_one, ptrCells, strCells] at cs
  go_wp2_with fail
  first | apply Mem.atCall | apply Mem.atCode | apply Mem.atList
  case h => repeat' (first | (with_reducible exact O) | (with_reducible apply Mem.drew) | (with_reducible apply Mem.drewN) | (with_reducible apply Mem.ext) | (with_reducible apply Mem.alloc) | (with_reducible apply Mem.setCell) | (simp only [ptb, ptb_upd, foots_cons, List.mem_cons, World.size_alloc, size_ext, World.size_setCell, true_or, or_true, eq_self_iff_true, ptb_listA, ptb_fam, ptb_propA, ptb_learnA, ptb_tabA]))
  case' k =>
    intro w3 O'
    (try clear O)
    have O := O'
    clear O'
    (first | simp only [sel, rst, List.cons_append, List.nil_append, World.size_alloc, size_ext, World.size_setCell, size_setMap, World.size_drew, size_drewN, upd, List.set_cons_zero, List.set_cons_succ, if_true, if_false, reduceIte, not_false_eq_true, ne_lt0, ne_lt1, ne_lt2, ne_lt3, ne_lt4, cs] at O | simp only [sel, rst, List.cons_append, List.nil_append, World.size_alloc, size_ext, World.size_setCell, size_setMap, World.size_drew, size_drewN, upd, List.set_cons_zero, List.set_cons_succ, if_true, if_false, reduceIte, not_false_eq_true, ne_lt0, ne_lt1, ne_lt2, ne_lt3, ne_lt4] at O | skip)
    (try clear cs)
    (try clear v1)
    (try clear v2)
    (try clear v3)
  generalize w2.heap.size = xb at O ⊢
  clear hwr
  go_loopw [8] (fun s wr => ∃ (j : Nat) (AA : Option Addr) (ca : Nat) (tabs : List (Nat × Nat × Rows10)), j ≤ n ∧ s = .int .i64 j ∧ Mem w [] wr [.pt xb [.slice AA j ca, .slice none 0 0, .slice none 0 0, .int .u32 0, .string vote, .slice none 0 0, .slice none 0 0, .slice none 0 0, .slice none 0 0, .slice none 0 0, .slice none 0 0] 74, listA 75 1 ptrCells AA ca (tabs.map (·.1)), fam tabF tabs] ∧ tabs.length = j ∧ Hid (tabs.map (·.2.2) = List.replicate j [])) (fun s _ => n - (intOf s).toNat)
  case atStart =>
    refine ⟨0, none, 0, [], by omega, rfl, ?_, rfl, Lib.hid rfl⟩
    have O1 := (Mem.famNil (f := tabF) O).sink 1
    simp only [List.take_succ_cons, List.take_zero, List.drop_succ_cons, List.drop_zero, List.cons_append, List.nil_append] at O1
    have O2 := (Mem.listNil (e := 75) (size := 1) (cs := ptrCells) O1).sink 1
    simp only [List.take_succ_cons, List.take_zero, List.drop_succ_cons, List.drop_zero, List.cons_append, List.nil_append] at O2
    exact O2
  case round =>
    clear O
    obtain ⟨j, A1, c1, tabs, hj, rfl, O, hlen, HT⟩ := hrel
    skip
    by_cases hlt : j < n
    · have hlti : (j : Int) < n := by omega
      have cs := O.facts
      simp only [factsP, cellsP, roomP, foots_cons, foots_nil, foots_append, foot_pt, ptb, ptb_mapA, foot_mapA, factsP_mapA, foot_bun, List.append_nil, List.nil_append, List.cons_append, List.nodup_cons, List.nodup_nil, List.mem_cons, List.not_mem_nil, List.mem_singleton, List.forall_mem_cons, not_or, not_false_eq_true, and_true, true_and, or_false, false_or, forall_eq_or_imp, forall_eq, implies_true, Nat.zero_add, Nat.reduceAdd, and_assoc, ptb_listA, factsP_listA, ptb_fam, factsP_fam, ptb_propA, factsP_propA, ptb_learnA, factsP_learnA, ptb_tabA, factsP_tabA, Nat.mul_one, ptrCells, strCells] at cs
      go_wp2_with fail
      first | apply Mem.atCall | apply Mem.atCode | apply Mem.atList
      case h => repeat' (first | (with_reducible exact O) | (with_reducible apply Mem.drew) | (with_reducible apply Mem.drewN) | (with_reducible apply Mem.ext) | (with_reducible apply Mem.alloc) | (with_reducible apply Mem.setCell) | (simp only [ptb, ptb_upd, foots_cons, List.mem_cons, World.size_alloc, size_ext, World.size_setCell, true_or, or_true, eq_self_iff_true, ptb_listA, ptb_fam, ptb_propA, ptb_learnA, ptb_tabA]))
      case' k =>
        intro wa O'
        (try clear O)
        have O := O'
        clear O'
        (first | simp only [sel, rst, List.cons_append, List.nil_append, World.size_alloc, size_ext, World.size_setCell, size_setMap, World.size_drew, size_drewN, upd, List.set_cons_zero, List.set_cons_succ, if_true, if_false, reduceIte, not_false_eq_true, ne_lt0, ne_lt1, ne_lt2, ne_lt3, ne_lt4, cs] at O | simp only [sel, rst, List.cons_append, List.nil_append, World.size_alloc, size_ext, World.size_setCell, size_setMap, World.size_drew, size_drewN, upd, List.set_cons_zero, List.set_cons_succ, if_true, if_false, reduceIte, not_false_eq_true, ne_lt0, ne_lt1, ne_lt2, ne_lt3, ne_lt4] at O | skip)
        (try clear cs)
        (try clear v1)
        (try clear v2)
        (try clear v3)
      refine (m_New _ 1 ⟨by omega, by omega⟩).mono ?_
      rintro e wb ⟨rfl, o⟩
      replace O := O.callp [] o
      clear o
      simp only [put, List.cons_append, List.nil_append] at O
      generalize wa.heap.size = q at O ⊢
      have O2 := O.front [true, false, false, true]
      simp only [sel, rst, List.cons_append, List.nil_append] at O2
      have O3 : Mem w [] wb (tabF (q + 1, q, []) :: fam tabF tabs :: _) := O2
      have O4 := O3.famSnoc.sink 2
      simp only [List.take_succ_cons, List.take_zero, List.drop_succ_cons, List.drop_zero, List.cons_append, List.nil_append] at O4
      clear O O2 O3
      have O := O4
      clear O4
      have HLEN := Lib.hid (show (tabs.map (·.1)).length = j by simpa using hlen)
      have cs := O.facts
      simp only [factsP, cellsP, roomP, foots_cons, foots_nil, foots_append, foot_pt, ptb, ptb_mapA, foot_mapA, factsP_mapA, foot_bun, List.append_nil, List.nil_append, List.cons_append, List.nodup_cons, List.nodup_nil, List.mem_cons, List.not_mem_nil, List.mem_singleton, List.forall_mem_cons, not_or, not_false_eq_true, and_true, true_and, or_false, false_or, forall_eq_or_imp, forall_eq, implies_true, Nat.zero_add, Nat.reduceAdd, and_assoc, ptb_listA, factsP_listA, ptb_fam, factsP_fam, ptb_propA, factsP_propA, ptb_learnA, factsP_learnA, ptb_tabA, factsP_tabA, Nat.mul_one, ptrCells, strCells] at cs
      go_wp2_with ((at_builtin; refine tabPtr.wl_ptr ((O.alloc (ptrCells (q + 1)) 75).front1 [false, false, true] rfl) rfl rfl HLEN.out rfl (q + 1) rfl (src_one (x := q + 1) (fun _ => rfl) (O.alloc (ptrCells (q + 1)) 75) (List.mem_cons_self ..)) (by rw [HLEN.out]; omega) ?_; intro AA' ca' w4 O4; have cs1 := O4.facts; simp only [rst, factsP, cellsP, roomP, foots_cons, foots_nil, foots_append, foot_pt, ptb, ptb_mapA, foot_mapA, factsP_mapA, foot_bun, List.append_nil, List.nil_append, List.cons_append, List.nodup_cons, List.nodup_nil, List.mem_cons, List.not_mem_nil, List.mem_singleton, List.forall_mem_cons, not_or, not_false_eq_true, and_true, true_and, or_false, false_or, forall_eq_or_imp, forall_eq, implies_true, Nat.zero_add, Nat.reduceAdd, and_assoc, ptb_listA, factsP_listA, ptb_fam, factsP_fam, ptb_propA, factsP_propA, ptb_learnA, factsP_learnA, ptb_tabA, factsP_tabA, Nat.mul_one, ptrCells, strCells] at cs1))
      clear cs O
      have cs := cs1
      clear cs1
      have O := O4.unfront
      simp only [put, List.cons_append, List.nil_append] at O
      clear O4
      go_roundw
      case rel =>
        refine ⟨j + 1, AA', ca', tabs ++ [(q + 1, q, [])], by omega, by go_num, ?_, by simp [hlen], Lib.hid (by rw [List.map_append, HT.out, List.replicate_succ']; rfl)⟩
        simp only [List.map_append, List.map_cons, List.map_nil]
        apply Mem.to [false, true, true, true, true]
        · repeat' (first | (with_reducible exact O) | (with_reducible apply Mem.drew) | (with_reducible apply Mem.drewN) | (with_reducible apply Mem.ext) | (with_reducible apply Mem.alloc) | (with_reducible apply Mem.setCell) | (simp only [ptb, ptb_upd, foots_cons, List.mem_cons, World.size_alloc, size_ext, World.size_setCell, true_or, or_true, eq_self_iff_true, ptb_listA, ptb_fam, ptb_propA, ptb_learnA, ptb_tabA]))
        · first | with_reducible rfl | (simp only [sel, rst, List.cons_append, List.nil_append, World.size_alloc, size_ext, World.size_setCell, size_setMap, World.size_drew, size_drewN, upd, List.set_cons_zero, List.set_cons_succ, if_true, if_false, reduceIte, not_false_eq_true, ne_lt0, ne_lt1, ne_lt2, ne_lt3, ne_lt4, cs]; done) | (simp only [sel, rst, List.cons_append, List.nil_append, World.size_alloc, size_ext, World.size_setCell, size_setMap, World.size_drew, size_drewN, upd, List.set_cons_zero, List.set_cons_succ, if_true, if_false, reduceIte, not_false_eq_true, ne_lt0, ne_lt1, ne_lt2, ne_lt3, ne_lt4]; done) | (simp only [sel, rst, List.cons_append, List.nil_append, World.size_alloc, size_ext, World.size_setCell, size_setMap, World.size_drew, size_drewN, upd, List.set_cons_zero, List.set_cons_succ, if_true, if_false, reduceIte, not_false_eq_true, ne_lt0, ne_lt1, ne_lt2, ne_lt3, ne_lt4, cs]; rfl) | (simp only [sel, rst, List.cons_append, List.nil_append, World.size_alloc, size_ext, World.size_setCell, size_setMap, World.size_drew, size_drewN, upd, List.set_cons_zero, List.set_cons_succ, if_true, if_false, reduceIte, not_false_eq_true, ne_lt0, ne_lt1, ne_lt2, ne_lt3, ne_lt4]; rfl)
      case measure => simp [intOf]; omega
    · obtain rfl : n = j := by omega
      have cs := O.facts
      simp only [factsP, cellsP, roomP, foots_cons, foots_nil, foots_append, foot_pt, ptb, ptb_mapA, foot_mapA, factsP_mapA, foot_bun, List.append_nil, List.nil_append, List.cons_append, List.nodup_cons, List.nodup_nil, List.mem_cons, List.not_mem_nil, List.mem_singleton, List.forall_mem_cons, not_or, not_false_eq_true, and_true, true_and, or_false, false_or, forall_eq_or_imp, forall_eq, implies_true, Nat.zero_add, Nat.reduceAdd, and_assoc, ptb_listA, factsP_listA, ptb_fam, factsP_fam, ptb_propA, factsP_propA, ptb_learnA, factsP_learnA, ptb_tabA, factsP_tabA, Nat.mul_one, ptrCells, strCells] at cs
      go_wp2_with fail
      clear cs hj hlt
      go_loopw [11] (fun s wr => ∃ (i : Nat) (A2 A3 : Option Addr) (c2 c3 : Nat) (props : List (Nat × Option Nat × Prop11)) (learns : List (Nat × Nat × Learn11)), i ≤ 3 ∧ s = .int .i64 i ∧ Mem w [] wr [.pt xb [.slice A1 n c1, .slice A2 i c2, .slice A3 i c3, .int .u32 0, .string vote, .slice none 0 0, .slice none 0 0, .slice none 0 0, .slice none 0 0, .slice none 0 0, .slice none 0 0] 74, listA 75 1 ptrCells A1 c1 (tabs.map (·.1)), listA 24 1 ptrCells A2 c2 (props.map (·.1)), listA 44 1 ptrCells A3 c3 (learns.map (·.1)), fam tabF tabs, fam propF props, fam learnF learns] ∧ props.length = i ∧ learns.length = i ∧ Hid (props.map (·.2.2) = (List.range i).map (fun (k : Nat) => newP k n) ∧ learns.map (·.2.2) = List.replicate i (newL n))) (fun s _ => 3 - (intOf s).toNat)
      case atStart =>
        refine ⟨0, none, none, 0, 0, [], [], by omega, rfl, ?_, rfl, rfl, Lib.hid ⟨rfl, rfl⟩⟩
        have O1 := (Mem.listNil (e := 24) (size := 1) (cs := ptrCells) O).sink 2
        simp only [List.take_succ_cons, List.take_zero, List.drop_succ_cons, List.drop_zero, List.cons_append, List.nil_append] at O1
        have O2 := (Mem.listNil (e := 44) (size := 1) (cs := ptrCells) O1).sink 3
        simp only [List.take_succ_cons, List.take_zero, List.drop_succ_cons, List.drop_zero, List.cons_append, List.nil_append] at O2
        have O3 := (Mem.famNil (f := propF) O2).sink 5
        simp only [List.take_succ_cons, List.take_zero, List.drop_succ_cons, List.drop_zero, List.cons_append, List.nil_append] at O3
        have O4 := (Mem.famNil (f := learnF) O3).sink 6
        simp only [List.take_succ_cons, List.take_zero, List.drop_succ_cons, List.drop_zero, List.cons_append, List.nil_append] at O4
        exact O4
      case round =>
        clear O
        obtain ⟨i, A2, A3, c2, c3, props, learns, hi, rfl, O, hlp, hll, HPL⟩ := hrel
        skip
        by_cases hlt : i < 3
        · have hlti : (i : Int) < 3 := by omega
          have HJ9 := Lib.hid (show 1 ≤ (n : Int) ∧ (n : Int) ≤ 9 by omega)
          have HI9 := Lib.hid (show 0 ≤ (i : Int) ∧ (i : Int) ≤ 255 by omega)
          have cs := O.facts
          simp only [factsP, cellsP, roomP, foots_cons, foots_nil, foots_append, foot_pt, ptb, ptb_mapA, foot_mapA, factsP_mapA, foot_bun, List.append_nil, List.nil_append, List.cons_append, List.nodup_cons, List.nodup_nil, List.mem_cons, List.not_mem_nil, List.mem_singleton, List.forall_mem_cons, not_or, not_false_eq_true, and_true, true_and, or_false, false_or, forall_eq_or_imp, forall_eq, implies_true, Nat.zero_add, Nat.reduceAdd, and_assoc, ptb_listA, factsP_listA, ptb_fam, factsP_fam, ptb_propA, factsP_propA, ptb_learnA, factsP_learnA, ptb_tabA, factsP_tabA, Nat.mul_one, ptrCells, strCells] at cs
          go_wp2_with fail
          first | apply Mem.atCall | apply Mem.atCode | apply Mem.atList
          case h => repeat' (first | (with_reducible exact O) | (with_reducible apply Mem.drew) | (with_reducible apply Mem.drewN) | (with_reducible apply Mem.ext) | (with_reducible apply Mem.alloc) | (with_reducible apply Mem.setCell) | (simp only [ptb, ptb_upd, foots_cons, List.mem_cons, World.size_alloc, size_ext, World.size_setCell, true_or, or_true, eq_self_iff_true, ptb_listA, ptb_fam, ptb_propA, ptb_learnA, ptb_tabA]))
          case' k =>
            intro wa O'
            (try clear O)
            have O := O'
            clear O'
            (first | simp only [sel, rst, List.cons_append, List.nil_append, World.size_alloc, size_ext, World.size_setCell, size_setMap, World.size_drew, size_drewN, upd, List.set_cons_zero, List.set_cons_succ, if_true, if_false, reduceIte, not_false_eq_true, ne_lt0, ne_lt1, ne_lt2, ne_lt3, ne_lt4, cs] at O | simp only [sel, rst, List.cons_append, List.nil_append, World.size_alloc, size_ext, World.size_setCell, size_setMap, World.size_drew, size_drewN, upd, List.set_cons_zero, List.set_cons_succ, if_true, if_false, reduceIte, not_false_eq_true, ne_lt0, ne_lt1, ne_lt2, ne_lt3, ne_lt4] at O | skip)
            (try clear cs)
            (try clear v1)
            (try clear v2)
            (try clear v3)
          refine (pA_New _ i n ⟨HI9.out.1, HI9.out.2, HJ9.out.1, HJ9.out.2⟩).mono ?_
          rintro e wb ⟨rfl, o⟩
          replace O := O.callp [] o
          clear o
          simp only [put, List.cons_append, List.nil_append] at O
          generalize wa.heap.size = qp at O ⊢
          have cs := O.facts
          simp only [factsP, cellsP, roomP, foots_cons, foots_nil, foots_append, foot_pt, ptb, ptb_mapA, foot_mapA, factsP_mapA, foot_bun, List.append_nil, List.nil_append, List.cons_append, List.nodup_cons, List.nodup_nil, List.mem_cons, List.not_mem_nil, List.mem_singleton, List.forall_mem_cons, not_or, not_false_eq_true, and_true, true_and, or_false, false_or, forall_eq_or_imp, forall_eq, implies_true, Nat.zero_add, Nat.reduceAdd, and_assoc, ptb_listA, factsP_listA, ptb_fam, factsP_fam, ptb_propA, factsP_propA, ptb_learnA, factsP_learnA, ptb_tabA, factsP_tabA, Nat.mul_one, ptrCells, strCells] at cs
          go_wp2_with fail
          first | apply Mem.atCall | apply Mem.atCode | apply Mem.atList
          case h => repeat' (first | (with_reducible exact O) | (with_reducible apply Mem.drew) | (with_reducible apply Mem.drewN) | (with_reducible apply Mem.ext) | (with_reducible apply Mem.alloc) | (with_reducible apply Mem.setCell) | (simp only [ptb, ptb_upd, foots_cons, List.mem_cons, World.size_alloc, size_ext, World.size_setCell, true_or, or_true, eq_self_iff_true, ptb_listA, ptb_fam, ptb_propA, ptb_learnA, ptb_tabA]))
          case' k =>
            intro wc O'
            (try clear O)
            have O := O'
            clear O'
            (first | simp only [sel, rst, List.cons_append, List.nil_append, World.size_alloc, size_ext, World.size_setCell, size_setMap, World.size_drew, size_drewN, upd, List.set_cons_zero, List.set_cons_succ, if_true, if_false, reduceIte, not_false_eq_true, ne_lt0, ne_lt1, ne_lt2, ne_lt3, ne_lt4, cs] at O | simp only [sel, rst, List.cons_append, List.nil_append, World.size_alloc, size_ext, World.size_setCell, size_setMap, World.size_drew, size_drewN, upd, List.set_cons_zero, List.set_cons_succ, if_true, if_false, reduceIte, not_false_eq_true, ne_lt0, ne_lt1, ne_lt2, ne_lt3, ne_lt4] at O | skip)
            (try clear cs)
            (try clear v1)
            (try clear v2)
            (try clear v3)
          refine (lA_New _ n ⟨HJ9.out.1, HJ9.out.2⟩).mono ?_
          rintro e wd ⟨rfl, o⟩
          replace O := O.callp [] o
          clear o
          simp only [put, List.cons_append, List.nil_append] at O
          generalize wc.heap.size = ql at O ⊢
          have O1 := O.front [true, false, false, false, false, false, false, false, true]
          simp only [sel, rst, List.cons_append, List.nil_append] at O1
          have O2 : Mem w [] wd (learnF (ql + 1, ql, newL n) :: fam learnF learns :: _) := O1
          have O3 := O2.famSnoc.sink 7
          simp only [List.take_succ_cons, List.take_zero, List.drop_succ_cons, List.drop_zero, List.cons_append, List.nil_append] at O3
          have O3b := O3.front [true, false, false, false, false, false, true]
          simp only [sel, rst, List.cons_append, List.nil_append] at O3b
          have O4 : Mem w [] wd (propF (qp, none, newP i n) :: fam propF props :: _) := O3b
          have O5 := O4.famSnoc.sink 5
          simp only [List.take_succ_cons, List.take_zero, List.drop_succ_cons, List.drop_zero, List.cons_append, List.nil_append] at O5
          clear O O1 O2 O3 O3b O4
          have O := O5
          clear O5
          have HLP := Lib.hid (show (props.map (·.1)).length = i by simpa using hlp)
          have HLL := Lib.hid (show (learns.map (·.1)).length = i by simpa using hll)
          have cs := O.facts
          simp only [factsP, cellsP, roomP, foots_cons, foots_nil, foots_append, foot_pt, ptb, ptb_mapA, foot_mapA, factsP_mapA, foot_bun, List.append_nil, List.nil_append, List.cons_append, List.nodup_cons, List.nodup_nil, List.mem_cons, List.not_mem_nil, List.mem_singleton, List.forall_mem_cons, not_or, not_false_eq_true, and_true, true_and, or_false, false_or, forall_eq_or_imp, forall_eq, implies_true, Nat.zero_add, Nat.reduceAdd, and_assoc, ptb_listA, factsP_listA, ptb_fam, factsP_fam, ptb_propA, factsP_propA, ptb_learnA, factsP_learnA, ptb_tabA, factsP_tabA, Nat.mul_one, ptrCells, strCells] at cs
          go_upto_region 14 with ((at_builtin; refine propPtr.wl_ptr ((O.alloc (ptrCells qp) 24).front1 [false, false, false, true] rfl) rfl rfl HLP.out rfl qp rfl (src_one (x := qp) (fun _ => rfl) (O.alloc (ptrCells qp) 24) (List.mem_cons_self ..)) (by rw [HLP.out]; omega) ?_; intro A2' c2' w4 O4; have cs1 := O4.facts; simp only [rst, factsP, cellsP, roomP, foots_cons, foots_nil, foots_append, foot_pt, ptb, ptb_mapA, foot_mapA, factsP_mapA, foot_bun, List.append_nil, List.nil_append, List.cons_append, List.nodup_cons, List.nodup_nil, List.mem_cons, List.not_mem_nil, List.mem_singleton, List.forall_mem_cons, not_or, not_false_eq_true, and_true, true_and, or_false, false_or, forall_eq_or_imp, forall_eq, implies_true, Nat.zero_add, Nat.reduceAdd, and_assoc, ptb_listA, factsP_listA, ptb_fam, factsP_fam, ptb_propA, factsP_propA, ptb_learnA, factsP_learnA, ptb_tabA, factsP_tabA, Nat.mul_one, ptrCells, strCells] at cs1))
          clear cs O
          have cs := cs1
          clear cs1
          have O := O4.unfront
          simp only [put, List.cons_append, List.nil_append] at O
          clear O4
          first | apply Mem.atCall | apply Mem.atCode | apply Mem.atList
          case h => repeat' (first | (with_reducible exact O) | (with_reducible apply Mem.drew) | (with_reducible apply Mem.drewN) | (with_reducible apply Mem.ext) | (with_reducible apply Mem.alloc) | (with_reducible apply Mem.setCell) | (simp only [ptb, ptb_upd, foots_cons, List.mem_cons, World.size_alloc, size_ext, World.size_setCell, true_or, or_true, eq_self_iff_true, ptb_listA, ptb_fam, ptb_propA, ptb_learnA, ptb_tabA]))
          case' k =>
            intro we O'
            (try clear O)
            have O := O'
            clear O'
            (first | simp only [sel, rst, List.cons_append, List.nil_append, World.size_alloc, size_ext, World.size_setCell, size_setMap, World.size_drew, size_drewN, upd, List.set_cons_zero, List.set_cons_succ, if_true, if_false, reduceIte, not_false_eq_true, ne_lt0, ne_lt1, ne_lt2, ne_lt3, ne_lt4, cs] at O | simp only [sel, rst, List.cons_append, List.nil_append, World.size_alloc, size_ext, World.size_setCell, size_setMap, World.size_drew, size_drewN, upd, List.set_cons_zero, List.set_cons_succ, if_true, if_false, reduceIte, not_false_eq_true, ne_lt0, ne_lt1, ne_lt2, ne_lt3, ne_lt4] at O | skip)
            (try clear cs)
            (try clear v1)
            (try clear v2)
            (try clear v3)
          have cs := O.facts
          simp only [factsP, cellsP, roomP, foots_cons, foots_nil, foots_append, foot_pt, ptb, ptb_mapA, foot_mapA, factsP_mapA, foot_bun, List.append_nil, List.nil_append, List.cons_append, List.nodup_cons, List.nodup_nil, List.mem_cons, List.not_mem_nil, List.mem_singleton, List.forall_mem_cons, not_or, not_false_eq_true, and_true, true_and, or_false, false_or, forall_eq_or_imp, forall_eq, implies_true, Nat.zero_add, Nat.reduceAdd, and_assoc, ptb_listA, factsP_listA, ptb_fam, factsP_fam, ptb_propA, factsP_propA, ptb_learnA, factsP_learnA, ptb_tabA, factsP_tabA, Nat.mul_one, ptrCells, strCells] at cs
          go_wp2_with ((at_builtin; refine learnPtr.wl_ptr ((O.alloc (ptrCells (ql + 1)) 44).front1 [false, false, false, false, false, true] rfl) rfl rfl HLL.out rfl (ql + 1) rfl (src_one (x := ql + 1) (fun _ => rfl) (O.alloc (ptrCells (ql + 1)) 44) (List.mem_cons_self ..)) (by rw [HLL.out]; omega) ?_; intro A3' c3' w5 O4; have cs1 := O4.facts; simp only [rst, factsP, cellsP, roomP, foots_cons, foots_nil, foots_append, foot_pt, ptb, ptb_mapA, foot_mapA, factsP_mapA, foot_bun, List.append_nil, List.nil_append, List.cons_append, List.nodup_cons, List.nodup_nil, List.mem_cons, List.not_mem_nil, List.mem_singleton, List.forall_mem_cons, not_or, not_false_eq_true, and_true, true_and, or_false, false_or, forall_eq_or_imp, forall_eq, implies_true, Nat.zero_add, Nat.reduceAdd, and_assoc, ptb_listA, factsP_listA, ptb_fam, factsP_fam, ptb_propA, factsP_propA, ptb_learnA, factsP_learnA, ptb_tabA, factsP_tabA, Nat.mul_one, ptrCells, strCells] at cs1))
          clear cs O
          have cs := cs1
          clear cs1
          have O := O4.unfront
          simp only [put, List.cons_append, List.nil_append] at O
          clear O4
          first | apply Mem.atCall | apply Mem.atCode | apply Mem.atList
          case h => repeat' (first | (with_reducible exact O) | (with_reducible apply Mem.drew) | (with_reducible apply Mem.drewN) | (with_reducible apply Mem.ext) | (with_reducible apply Mem.alloc) | (with_reducible apply Mem.setCell) | (simp only [ptb, ptb_upd, foots_cons, List.mem_cons, World.size_alloc, size_ext, World.size_setCell, true_or, or_true, eq_self_iff_true, ptb_listA, ptb_fam, ptb_propA, ptb_learnA, ptb_tabA]))
          case' k =>
            intro wf O'
            (try clear O)
            have O := O'
            clear O'
            (first | simp only [sel, rst, List.cons_append, List.nil_append, World.size_alloc, size_ext, World.size_setCell, size_setMap, World.size_drew, size_drewN, upd, List.set_cons_zero, List.set_cons_succ, if_true, if_false, reduceIte, not_false_eq_true, ne_lt0, ne_lt1, ne_lt2, ne_lt3, ne_lt4, cs] at O | simp only [sel, rst, List.cons_append, List.nil_append, World.size_alloc, size_ext, World.size_setCell, size_setMap, World.size_drew, size_drewN, upd, List.set_cons_zero, List.set_cons_succ, if_true, if_false, reduceIte, not_false_eq_true, ne_lt0, ne_lt1, ne_lt2, ne_lt3, ne_lt4] at O | skip)
            (try clear cs)
            (try clear v1)
            (try clear v2)
            (try clear v3)
          refine (alive11 _).mono ?_
          rintro e wg ⟨rfl, o⟩
          replace O := O.callp [] o
          clear o
          simp only [put, List.cons_append, List.nil_append] at O
          try simp only [List.nil_append] at O
          have cs := O.facts
          simp only [factsP, cellsP, roomP, foots_cons, foots_nil, foots_append, foot_pt, ptb, ptb_mapA, foot_mapA, factsP_mapA, foot_bun, List.append_nil, List.nil_append, List.cons_append, List.nodup_cons, List.nodup_nil, List.mem_cons, List.not_mem_nil, List.mem_singleton, List.forall_mem_cons, not_or, not_false_eq_true, and_true, true_and, or_false, false_or, forall_eq_or_imp, forall_eq, implies_true, Nat.zero_add, Nat.reduceAdd, and_assoc, ptb_listA, factsP_listA, ptb_fam, factsP_fam, ptb_propA, factsP_propA, ptb_learnA, factsP_learnA, ptb_tabA, factsP_tabA, Nat.mul_one, ptrCells, strCells] at cs
          go_wp2_with fail
          go_roundw
          case rel =>
            refine ⟨i + 1, A2', A3', c2', c3', props ++ [(qp, none, newP i n)], learns ++ [(ql + 1, ql, newL n)], by omega, by go_num, ?_, by simp [hlp], by simp [hll], Lib.hid ⟨by rw [List.map_append, HPL.out.1, List.range_succ, List.map_append]; rfl, by rw [List.map_append, HPL.out.2, List.replicate_succ']; rfl⟩⟩
            simp only [List.map_append, List.map_cons, List.map_nil]
            apply Mem.to [false, false, true, true, true, true, true, true, true]
            · repeat' (first | (with_reducible exact O) | (with_reducible apply Mem.drew) | (with_reducible apply Mem.drewN) | (with_reducible apply Mem.ext) | (with_reducible apply Mem.alloc) | (with_reducible apply Mem.setCell) | (simp only [ptb, ptb_upd, foots_cons, List.mem_cons, World.size_alloc, size_ext, World.size_setCell, true_or, or_true, eq_self_iff_true, ptb_listA, ptb_fam, ptb_propA, ptb_learnA, ptb_tabA]))
            · first | with_reducible rfl | (simp only [sel, rst, List.cons_append, List.nil_append, World.size_alloc, size_ext, World.size_setCell, size_setMap, World.size_drew, size_drewN, upd, List.set_cons_zero, List.set_cons_succ, if_true, if_false, reduceIte, not_false_eq_true, ne_lt0, ne_lt1, ne_lt2, ne_lt3, ne_lt4, cs]; done) | (simp only [sel, rst, List.cons_append, List.nil_append, World.size_alloc, size_ext, World.size_setCell, size_setMap, World.size_drew, size_drewN, upd, List.set_cons_zero, List.set_cons_succ, if_true, if_false, reduceIte, not_false_eq_true, ne_lt0, ne_lt1, ne_lt2, ne_lt3, ne_lt4]; done) | (simp only [sel, rst, List.cons_append, List.nil_append, World.size_alloc, size_ext, World.size_setCell, size_setMap, World.size_drew, size_drewN, upd, List.set_cons_zero, List.set_cons_succ, if_true, if_false, reduceIte, not_false_eq_true, ne_lt0, ne_lt1, ne_lt2, ne_lt3, ne_lt4, cs]; rfl) | (simp only [sel, rst, List.cons_append, List.nil_append, World.size_alloc, size_ext, World.size_setCell, size_setMap, World.size_drew, size_drewN, upd, List.set_cons_zero, List.set_cons_succ, if_true, if_false, reduceIte, not_false_eq_true, ne_lt0, ne_lt1, ne_lt2, ne_lt3, ne_lt4]; rfl)
          case measure => simp [intOf]; omega
        · obtain rfl : i = 3 := by omega
          rw [show (((3 : Nat) : Int)) = 3 from rfl]
          have cs := O.facts
          simp only [factsP, cellsP, roomP, foots_cons, foots_nil, foots_append, foot_pt, ptb, ptb_mapA, foot_mapA, factsP_mapA, foot_bun, List.append_nil, List.nil_append, List.cons_append, List.nodup_cons, List.nodup_nil, List.mem_cons, List.not_mem_nil, List.mem_singleton, List.forall_mem_cons, not_or, not_false_eq_true, and_true, true_and, or_false, false_or, forall_eq_or_imp, forall_eq, implies_true, Nat.zero_add, Nat.reduceAdd, and_assoc, ptb_listA, factsP_listA, ptb_fam, factsP_fam, ptb_propA, factsP_propA, ptb_learnA, factsP_learnA, ptb_tabA, factsP_tabA, Nat.mul_one, ptrCells, strCells] at cs
          go_wp2_with fail
          clear cs hi hlt
          go_loopw [16] (fun s wr => ∃ (i : Nat), i ≤ n ∧ s = .int .i64 i ∧ Mem w [] wr [.pt xb [.slice A1 n c1, .slice A2 3 c2, .slice A3 3 c3, .int .u32 0, .string vote, .slice none 0 0, .slice none 0 0, .slice none 0 0, .slice none 0 0, .slice none 0 0, .slice none 0 0] 74, listA 75 1 ptrCells A1 c1 (tabs.map (·.1)), listA 24 1 ptrCells A2 c2 (props.map (·.1)), listA 44 1 ptrCells A3 c3 (learns.map (·.1)), fam tabF tabs, fam propF props, fam learnF learns]) (fun s _ => n - (intOf s).toNat)
          case atStart => exact ⟨0, by omega, rfl, O⟩
          case round =>
            clear O
            obtain ⟨i, hi, rfl, O⟩ := hrel
            by_cases hlt : i < n
            · have hlti : (i : Int) < n := by omega
              obtain ⟨tb, htb⟩ : ∃ tb, (tabs.map (·.1))[i]? = some tb := ⟨_, List.getElem?_eq_getElem (by simp; omega)⟩
              obtain ⟨g, hg, _⟩ := listA_get (cs := ptrCells) (fun _ => rfl) (O.hold (listA 75 1 ptrCells A1 c1 (tabs.map (·.1))) (by simp)) htb
              subst hg
              have HTB := Lib.hid htb
              clear htb
              skip
              have cs := O.facts
              simp only [factsP, cellsP, roomP, foots_cons, foots_nil, foots_append, foot_pt, ptb, ptb_mapA, foot_mapA, factsP_mapA, foot_bun, List.append_nil, List.nil_append, List.cons_append, List.nodup_cons, List.nodup_nil, List.mem_cons, List.not_mem_nil, List.mem_singleton, List.forall_mem_cons, not_or, not_false_eq_true, and_true, true_and, or_false, false_or, forall_eq_or_imp, forall_eq, implies_true, Nat.zero_add, Nat.reduceAdd, and_assoc, ptb_listA, factsP_listA, ptb_fam, factsP_fam, ptb_propA, factsP_propA, ptb_learnA, factsP_learnA, ptb_tabA, factsP_tabA, Nat.mul_one, ptrCells, strCells] at cs
              have v1 := (listA_at (cs := ptrCells) (fun _ => rfl) (O.hold (listA 75 1 ptrCells (some ⟨g, 0, none⟩) c1 (tabs.map (·.1))) (by simp)) HTB.out)
              try simp only [cellsQ, roomP, and_assoc, and_true, true_and, Nat.add_zero, Nat.zero_add, Nat.reduceAdd, factsP, cellsP, roomP, foots_cons, foots_nil, foots_append, foot_pt, ptb, ptb_mapA, foot_mapA, factsP_mapA, foot_bun, List.append_nil, List.nil_append, List.cons_append, List.nodup_cons, List.nodup_nil, List.mem_cons, List.not_mem_nil, List.mem_singleton, List.forall_mem_cons, not_or, not_false_eq_true, and_true, true_and, or_false, false_or, forall_eq_or_imp, forall_eq, implies_true, Nat.zero_add, Nat.reduceAdd, and_assoc, ptb_listA, factsP_listA, ptb_fam, factsP_fam, ptb_propA, factsP_propA, ptb_learnA, factsP_learnA, ptb_tabA, factsP_tabA, Nat.mul_one, ptrCells, strCells] at v1
              go_wp2_with fail
              go_roundw
              case rel => exact ⟨i + 1, by omega, by go_num, O⟩
              case measure => simp [intOf]; omega
            · obtain rfl : n = i := by omega
              clear hi hlt
              skip
              have cs := O.facts
              simp only [factsP, cellsP, roomP, foots_cons, foots_nil, foots_append, foot_pt, ptb, ptb_mapA, foot_mapA, factsP_mapA, foot_bun, List.append_nil, List.nil_append, List.cons_append, List.nodup_cons, List.nodup_nil, List.mem_cons, List.not_mem_nil, List.mem_singleton, List.forall_mem_cons, not_or, not_false_eq_true, and_true, true_and, or_false, false_or, forall_eq_or_imp, forall_eq, implies_true, Nat.zero_add, Nat.reduceAdd, and_assoc, ptb_listA, factsP_listA, ptb_fam, factsP_fam, ptb_propA, factsP_propA, ptb_learnA, factsP_learnA, ptb_tabA, factsP_tabA, Nat.mul_one, ptrCells, strCells] at cs
              go_wp2_with fail
              first | apply Mem.atCall | apply Mem.atCode | apply Mem.atList
              case h => repeat' (first | (with_reducible exact O) | (with_reducible apply Mem.drew) | (with_reducible apply Mem.drewN) | (with_reducible apply Mem.ext) | (with_reducible apply Mem.alloc) | (with_reducible apply Mem.setCell) | (simp only [ptb, ptb_upd, foots_cons, List.mem_cons, World.size_alloc, size_ext, World.size_setCell, true_or, or_true, eq_self_iff_true, ptb_listA, ptb_fam, ptb_propA, ptb_learnA, ptb_tabA]))
              case' k =>
                intro wi O'
                (try clear O)
                have O := O'
                clear O'
                (first | simp only [sel, rst, List.cons_append, List.nil_append, World.size_alloc, size_ext, World.size_setCell, size_setMap, World.size_drew, size_drewN, upd, List.set_cons_zero, List.set_cons_succ, if_true, if_false, reduceIte, not_false_eq_true, ne_lt0, ne_lt1, ne_lt2, ne_lt3, ne_lt4, cs] at O | simp only [sel, rst, List.cons_append, List.nil_append, World.size_alloc, size_ext, World.size_setCell, size_setMap, World.size_drew, size_drewN, upd, List.set_cons_zero, List.set_cons_succ, if_true, if_false, reduceIte, not_false_eq_true, ne_lt0, ne_lt1, ne_lt2, ne_lt3, ne_lt4] at O | skip)
                (try clear cs)
                (try clear v1)
                (try clear v2)
                (try clear v3)
              have hst0 : Inv n [vote] (PxM.st ⟨A1, c1, A2, c2, A3, c3, tabs, props, learns, 0, vote, none, 0, [], none, 0, [], none, 0, [], none, 0, []⟩) := by
                have := Inv.zero (n := n) hn1 vote (tabs.map (·.2.2)) HT.out (props.map (·.2.2)) (by rw [HPL.out.1]; rfl)
                unfold PxM.st
                simp only [HPL.out.2]
                exact this
              have hmo0 : ∀ q ∈ props, q.2.1 = none → q.2.2.b.r = 0 := by
                intro q hq _
                have hmem : q.2.2 ∈ props.map (·.2.2) := List.mem_map.2 ⟨q, hq, rfl⟩
                rw [HPL.out.1] at hmem
                obtain ⟨k, _, hk⟩ := List.mem_map.1 hmem
                rw [← hk]
                rfl
              have OB : Mem w [] wi (listA 9 1 strCells (some ⟨wr.heap.size, 0, none⟩) 1 [vote] :: PxM.parts ⟨A1, c1, A2, c2, A3, c3, tabs, props, learns, 0, vote, none, 0, [], none, 0, [], none, 0, [], none, 0, []⟩ n xb) := by
                have O1 := ptList (cs := strCells) (l := [vote]) (fun _ => rfl) O (by unfold maxLen; simp)
                have O2 := (Mem.listNil (e := 101) (size := 9) (cs := sentCells) (Mem.listNil (e := 101) (size := 9) (cs := sentCells) (Mem.listNil (e := 101) (size := 9) (cs := sentCells) (Mem.listNil (e := 101) (size := 9) (cs := sentCells) O1)))).front [false, false, false, false, true, true, true, true, true, true, true, true]
                simp only [sel, rst, List.cons_append, List.nil_append] at O2
                exact O2
              have HZ := Lib.hid (And.intro hst0 hmo0)
              clear hst0 hmo0 O HT HPL hlp hll hlen
              generalize wr.heap.size = qs at OB ⊢
              generalize hX0 : (PxM.mk A1 c1 A2 c2 A3 c3 tabs props learns 0 vote none 0 [] none 0 [] none 0 [] none 0 []) = X0 at OB HZ
              have HS0 := Lib.hid (show X0.size = 0 ∧ X0.round = 0 ∧ X0.props = props by rw [← hX0]; exact ⟨rfl, rfl, rfl⟩)
              clear hX0
              go_loopw [17, 18] (fun s17 s18 wr => ∃ (i : Nat) (X : PxM) (P : List ByteArray) (PA : Option Addr) (pc : Nat), i ≤ l.length ∧ i ≤ 400 ∧ s18 = .int .i64 i ∧ s17 = .slice PA P.length pc ∧ Mem w [] wr (listA 9 1 strCells PA pc P :: X.parts n xb) ∧ Hid (Inv n P X.st ∧ X.size ≤ 5 * i ∧ X.round ≤ i ∧ (∀ q ∈ X.props, q.2.1 = none → q.2.2.b.r = 0) ∧ P.length ≤ i + 1)) (fun _ s18 _ => l.length - (intOf s18).toNat)
              case atStart => exact ⟨0, X0, [vote], some ⟨qs, 0, none⟩, 1, by omega, by omega, rfl, rfl, OB, Lib.hid ⟨HZ.out.1, by rw [HS0.out.1]; omega, by rw [HS0.out.2.1]; simp, by rw [HS0.out.2.2]; exact HZ.out.2, by simp⟩⟩
              case round =>
                clear OB HZ HS0
                obtain ⟨i, X, P, PA, pc, hi, hi4, rfl, rfl, OB, HH⟩ := hrel
                have O := OB
                simp only [PxM.parts, PxM.cells] at O
                skip
                by_cases hlt : i < l.length ∧ i < 400
                case neg =>
                  have hcase : (i < l.length ∧ ¬ i < 400) ∨ ¬ i < l.length := by omega
                  rcases hcase with ⟨h1, h2⟩ | h1
                  · have h3 : (i : Int) < l.length := by omega
                    have h4 : ¬ (i : Int) < 400 := by omega
                    have cs := O.facts
                    simp only [factsP, cellsP, roomP, foots_cons, foots_nil, foots_append, foot_pt, ptb, ptb_mapA, foot_mapA, factsP_mapA, foot_bun, List.append_nil, List.nil_append, List.cons_append, List.nodup_cons, List.nodup_nil, List.mem_cons, List.not_mem_nil, List.mem_singleton, List.forall_mem_cons, not_or, not_false_eq_true, and_true, true_and, or_false, false_or, forall_eq_or_imp, forall_eq, implies_true, Nat.zero_add, Nat.reduceAdd, and_assoc, ptb_listA, factsP_listA, ptb_fam, factsP_fam, ptb_propA, factsP_propA, ptb_learnA, factsP_learnA, ptb_tabA, factsP_tabA, Nat.mul_one, ptrCells, strCells] at cs
                    go_wp2_with fail
                    go_ret
                    exact ⟨rfl, O.fr.below rfl⟩
                  · have h3 : ¬ (i : Int) < l.length := by omega
                    have cs := O.facts
                    simp only [factsP, cellsP, roomP, foots_cons, foots_nil, foots_append, foot_pt, ptb, ptb_mapA, foot_mapA, factsP_mapA, foot_bun, List.append_nil, List.nil_append, List.cons_append, List.nodup_cons, List.nodup_nil, List.mem_cons, List.not_mem_nil, List.mem_singleton, List.forall_mem_cons, not_or, not_false_eq_true, and_true, true_and, or_false, false_or, forall_eq_or_imp, forall_eq, implies_true, Nat.zero_add, Nat.reduceAdd, and_assoc, ptb_listA, factsP_listA, ptb_fam, factsP_fam, ptb_propA, factsP_propA, ptb_learnA, factsP_learnA, ptb_tabA, factsP_tabA, Nat.mul_one, ptrCells, strCells] at cs
                    go_wp2_with fail
                    go_ret
                    exact ⟨rfl, O.fr.below rfl⟩
                case pos =>
                  obtain ⟨hlt, h400⟩ := hlt
                  have hlti : (i : Int) < l.length := by omega
                  have h4i : (i : Int) < 400 := by omega
                  obtain ⟨b, off, rfl, hbb, hq⟩ := HC.out i _ (List.getElem?_eq_getElem hlt)
                  have hoo := HO.out _ (List.getElem_mem hlt)
                  generalize l[i] = e at *
                  have Vw := Lib.hid (fun W (h : Fr [] w W) => arg_view hbb hq h)
                  obtain ⟨ek, ea, eb, ev⟩ := e
                  simp only [Ev.cells, cellsQ, Nat.add_zero, Nat.reduceAdd, and_true, Nat.zero_add] at Vw
                  have HOO := Lib.hid hoo
                  clear hoo hq
                  skip
                  have cs := O.facts
                  simp only [factsP, cellsP, roomP, foots_cons, foots_nil, foots_append, foot_pt, ptb, ptb_mapA, foot_mapA, factsP_mapA, foot_bun, List.append_nil, List.nil_append, List.cons_append, List.nodup_cons, List.nodup_nil, List.mem_cons, List.not_mem_nil, List.mem_singleton, List.forall_mem_cons, not_or, not_false_eq_true, and_true, true_and, or_false, false_or, forall_eq_or_imp, forall_eq, implies_true, Nat.zero_add, Nat.reduceAdd, and_assoc, ptb_listA, factsP_listA, ptb_fam, factsP_fam, ptb_propA, factsP_propA, ptb_learnA, factsP_learnA, ptb_tabA, factsP_tabA, Nat.mul_one, ptrCells, strCells] at cs
                  have v1 := Vw.out _ O.fr
                  simp only [roomP, and_assoc] at v1
                  go_wp2_with fail
                  first | apply Mem.atCall | apply Mem.atCode | apply Mem.atList
                  case h => repeat' (first | (with_reducible exact O) | (with_reducible apply Mem.drew) | (with_reducible apply Mem.drewN) | (with_reducible apply Mem.ext) | (with_reducible apply Mem.alloc) | (with_reducible apply Mem.setCell) | (simp only [ptb, ptb_upd, foots_cons, List.mem_cons, World.size_alloc, size_ext, World.size_setCell, true_or, or_true, eq_self_iff_true, ptb_listA, ptb_fam, ptb_propA, ptb_learnA, ptb_tabA]))
                  case' k =>
                    intro x1 O'
                    (try clear O)
                    have O := O'
                    clear O'
                    (first | simp only [sel, rst, List.cons_append, List.nil_append, World.size_alloc, size_ext, World.size_setCell, size_setMap, World.size_drew, size_drewN, upd, List.set_cons_zero, List.set_cons_succ, if_true, if_false, reduceIte, not_false_eq_true, ne_lt0, ne_lt1, ne_lt2, ne_lt3, ne_lt4, cs] at O | simp only [sel, rst, List.cons_append, List.nil_append, World.size_alloc, size_ext, World.size_setCell, size_setMap, World.size_drew, size_drewN, upd, List.set_cons_zero, List.set_cons_succ, if_true, if_false, reduceIte, not_false_eq_true, ne_lt0, ne_lt1, ne_lt2, ne_lt3, ne_lt4] at O | skip)
                    (try clear cs)
                    (try clear v1)
                    (try clear v2)
                    (try clear v3)
                  have OF : Mem w [] x1 (listA 9 1 strCells PA pc P :: X.parts n xb) := O
                  have hpre : Pre x1 (X.parts n xb) := OF.pre [false, true, true, true, true, true, true, true, true, true, true, true]
                  refine (px_step x1 xb n X P ⟨ek, ea, eb, ev⟩ ⟨hn1, hn5⟩ hpre HOO.out.1 HOO.out.2.1 HOO.out.2.2 (by have := HH.out.2.1; omega) (by have := HH.out.2.2.1; omega) HH.out.1 HH.out.2.2.2.1).mono ?_
                  rintro r x2 ⟨rfl, X', hmv, hm, hsz', hmo', _, _⟩
                  have OG : Mem w [] x2 (listA 9 1 strCells PA pc P :: X'.parts n xb) := OF.callp [false, true, true, true, true, true, true, true, true, true, true, true] hm
                  have HI := Lib.hid (HH.out.1.move hmv)
                  have HR := Lib.hid (show X'.size ≤ 5 * (i + 1) ∧ X'.round ≤ ((i + 1 : Nat) : Int) ∧ P.length ≤ i + 1 by
                    have h1 := HH.out.2.1
                    have h2 := HH.out.2.2.1
                    have h3 : X'.round ≤ X.round + 1 := Move.round hmv
                    have h4 := HH.out.2.2.2.2
                    exact ⟨by omega, by omega, h4⟩)
                  have HM := Lib.hid hmo'
                  clear hmv hm hsz' hmo' hpre OF O HH OB
                  have O := OG
                  simp only [PxM.parts, PxM.cells] at O
                  clear OG
                  have cs := O.facts
                  simp only [factsP, cellsP, roomP, foots_cons, foots_nil, foots_append, foot_pt, ptb, ptb_mapA, foot_mapA, factsP_mapA, foot_bun, List.append_nil, List.nil_append, List.cons_append, List.nodup_cons, List.nodup_nil, List.mem_cons, List.not_mem_nil, List.mem_singleton, List.forall_mem_cons, not_or, not_false_eq_true, and_true, true_and, or_false, false_or, forall_eq_or_imp, forall_eq, implies_true, Nat.zero_add, Nat.reduceAdd, and_assoc, ptb_listA, factsP_listA, ptb_fam, factsP_fam, ptb_propA, factsP_propA, ptb_learnA, factsP_learnA, ptb_tabA, factsP_tabA, Nat.mul_one, ptrCells, strCells] at cs
                  have v1 := Vw.out _ O.fr
                  simp only [roomP, and_assoc] at v1
                  go_upto_if 132 with fail
                  go_cut [17] (fun s17 wc => ∃ (P' : List ByteArray) (PA' : Option Addr) (pc' : Nat), s17 = .slice PA' P'.length pc' ∧ Mem w [] wc (listA 9 1 strCells PA' pc' P' :: X'.parts n xb) ∧ Hid (P' = P ++ (Ev.told ⟨ek, ea, eb, ev⟩).toList))
                  case first =>
                    by_cases hk0 : ek = 0
                    · subst hk0
                      have cs := O.facts
                      simp only [factsP, cellsP, roomP, foots_cons, foots_nil, foots_append, foot_pt, ptb, ptb_mapA, foot_mapA, factsP_mapA, foot_bun, List.append_nil, List.nil_append, List.cons_append, List.nodup_cons, List.nodup_nil, List.mem_cons, List.not_mem_nil, List.mem_singleton, List.forall_mem_cons, not_or, not_false_eq_true, and_true, true_and, or_false, false_or, forall_eq_or_imp, forall_eq, implies_true, Nat.zero_add, Nat.reduceAdd, and_assoc, ptb_listA, factsP_listA, ptb_fam, factsP_fam, ptb_propA, factsP_propA, ptb_learnA, factsP_learnA, ptb_tabA, factsP_tabA, Nat.mul_one, ptrCells, strCells] at cs
                      have v1 := Vw.out _ O.fr
                      simp only [roomP, and_assoc] at v1
                      go_wp2_with ((at_builtin; refine strTy.wl_app ((O.alloc (strCells ev) 9).front1 [false, true] rfl) rfl rfl rfl rfl [ev] rfl rfl (src_one (x := ev) (fun _ => rfl) (O.alloc (strCells ev) 9) (List.mem_cons_self ..)) (by have := HR.out.2.2; simp; omega) ?_; intro PA2 pc2 w4 O4; have cs1 := O4.facts; simp only [rst, factsP, cellsP, roomP, foots_cons, foots_nil, foots_append, foot_pt, ptb, ptb_mapA, foot_mapA, factsP_mapA, foot_bun, List.append_nil, List.nil_append, List.cons_append, List.nodup_cons, List.nodup_nil, List.mem_cons, List.not_mem_nil, List.mem_singleton, List.forall_mem_cons, not_or, not_false_eq_true, and_true, true_and, or_false, false_or, forall_eq_or_imp, forall_eq, implies_true, Nat.zero_add, Nat.reduceAdd, and_assoc, ptb_listA, factsP_listA, ptb_fam, factsP_fam, ptb_propA, factsP_propA, ptb_learnA, factsP_learnA, ptb_tabA, factsP_tabA, Nat.mul_one, ptrCells, strCells] at cs1))
                      clear cs O
                      have cs := cs1
                      clear cs1
                      have O := O4.unfront
                      simp only [put, List.cons_append, List.nil_append] at O
                      clear O4
                      go_meet
                      refine ⟨P ++ [ev], PA2, pc2, by simp, ?_, Lib.hid (by simp [Ev.told])⟩
                      exact O.sel [false, true, true, true, true, true, true, true, true, true, true, true, true]
                    · have hk0' : (ek == 0) = false := by simp [hk0]
                      have cs := O.facts
                      simp only [factsP, cellsP, roomP, foots_cons, foots_nil, foots_append, foot_pt, ptb, ptb_mapA, foot_mapA, factsP_mapA, foot_bun, List.append_nil, List.nil_append, List.cons_append, List.nodup_cons, List.nodup_nil, List.mem_cons, List.not_mem_nil, List.mem_singleton, List.forall_mem_cons, not_or, not_false_eq_true, and_true, true_and, or_false, false_or, forall_eq_or_imp, forall_eq, implies_true, Nat.zero_add, Nat.reduceAdd, and_assoc, ptb_listA, factsP_listA, ptb_fam, factsP_fam, ptb_propA, factsP_propA, ptb_learnA, factsP_learnA, ptb_tabA, factsP_tabA, Nat.mul_one, ptrCells, strCells] at cs
                      have v1 := Vw.out _ O.fr
                      simp only [roomP, and_assoc] at v1
                      go_wp2_with fail
                      go_meet
                      exact ⟨P, PA, pc, rfl, O, Lib.hid (by simp [Ev.told, hk0])⟩
                  case rest =>
                    clear O
                    obtain ⟨P', PA', pc', rfl, OB, HP⟩ := hcut
                    have hI : Inv n P' X'.st := by rw [HP.out]; exact HI.out
                    have hPl : P'.length ≤ i + 1 + 1 := by
                      have := HR.out.2.2
                      rw [HP.out]
                      cases h : (Ev.told ⟨ek, ea, eb, ev⟩) <;> simp <;> omega
                    clear HI HP
                    have HI := Lib.hid hI
                    have hP4 : P'.length ≤ 402 := by omega
                    have HPL := Lib.hid hPl
                    clear hI hPl Vw HOO
                    have O := OB
                    simp only [PxM.parts, PxM.cells] at O
                    clear OB
                    skip
                    have cs := O.facts
                    simp only [factsP, cellsP, roomP, foots_cons, foots_nil, foots_append, foot_pt, ptb, ptb_mapA, foot_mapA, factsP_mapA, foot_bun, List.append_nil, List.nil_append, List.cons_append, List.nodup_cons, List.nodup_nil, List.mem_cons, List.not_mem_nil, List.mem_singleton, List.forall_mem_cons, not_or, not_false_eq_true, and_true, true_and, or_false, false_or, forall_eq_or_imp, forall_eq, implies_true, Nat.zero_add, Nat.reduceAdd, and_assoc, ptb_listA, factsP_listA, ptb_fam, factsP_fam, ptb_propA, factsP_propA, ptb_learnA, factsP_learnA, ptb_tabA, factsP_tabA, Nat.mul_one, ptrCells, strCells] at cs
                    go_wp2_with fail
                    clear cs
                    go_loopw [19, 20, 21] (fun s19 s20 s21 wr => ∃ (k : Nat) (v : ByteArray) (sm : Bool), k ≤ 3 ∧ s21 = .int .i64 k ∧ s19 = .string v ∧ s20 = .bool sm ∧ Mem w [] wr (listA 9 1 strCells PA' pc' P' :: X'.parts n xb) ∧ Hid (sm = true → ∃ q ∈ X'.st.learns, q.is = true ∧ q.chosen = v)) (fun _ _ s21 _ => 3 - (intOf s21).toNat)
                    case atStart => exact ⟨0, .empty, false, by omega, rfl, rfl, rfl, O, Lib.hid (fun h => by simp at h)⟩
                    case round =>
                      clear O
                      obtain ⟨k, v, sm, hk, rfl, rfl, rfl, OB, HV⟩ := hrel
                      have O := OB
                      simp only [PxM.parts, PxM.cells] at O
                      clear OB
                      by_cases hk3 : k < 3
                      · have hk3i : (k : Int) < 3 := by omega
                        have hnl : X'.learns.length = 3 := by have := HI.out.nl; simpa [PxM.st] using this
                        obtain ⟨⟨lb, mb, q⟩, ht⟩ : ∃ t, X'.learns[k]? = some t := ⟨_, List.getElem?_eq_getElem (by omega)⟩
                        have htb : (X'.learns.map (·.1))[k]? = some lb := by rw [List.getElem?_map, ht]; rfl
                        have hqm : q ∈ X'.st.learns := List.mem_map.2 ⟨(lb, mb, q), List.mem_of_getElem? ht, rfl⟩
                        obtain ⟨g, hg, _⟩ := listA_get (cs := ptrCells) (fun _ => rfl) (O.hold (listA 44 1 ptrCells X'.A3 X'.c3 (X'.learns.map (·.1))) (by simp)) htb
                        have HTB := Lib.hid htb
                        have HT := Lib.hid ht
                        have HQM := Lib.hid hqm
                        have hA3 := hg
                        clear ht htb hqm hnl hg
                        skip
                        have cs := O.facts
                        simp only [factsP, cellsP, roomP, foots_cons, foots_nil, foots_append, foot_pt, ptb, ptb_mapA, foot_mapA, factsP_mapA, foot_bun, List.append_nil, List.nil_append, List.cons_append, List.nodup_cons, List.nodup_nil, List.mem_cons, List.not_mem_nil, List.mem_singleton, List.forall_mem_cons, not_or, not_false_eq_true, and_true, true_and, or_false, false_or, forall_eq_or_imp, forall_eq, implies_true, Nat.zero_add, Nat.reduceAdd, and_assoc, ptb_listA, factsP_listA, ptb_fam, factsP_fam, ptb_propA, factsP_propA, ptb_learnA, factsP_learnA, ptb_tabA, factsP_tabA, Nat.mul_one, ptrCells, strCells] at cs
                        have v1 := (listA_at (cs := ptrCells) (fun _ => rfl) (O.hold (listA 44 1 ptrCells (some ⟨g, 0, none⟩) X'.c3 (X'.learns.map (·.1))) (by simp [hA3])) HTB.out)
                        try simp only [cellsQ, roomP, and_assoc, and_true, true_and, Nat.add_zero, Nat.zero_add, Nat.reduceAdd, factsP, cellsP, roomP, foots_cons, foots_nil, foots_append, foot_pt, ptb, ptb_mapA, foot_mapA, factsP_mapA, foot_bun, List.append_nil, List.nil_append, List.cons_append, List.nodup_cons, List.nodup_nil, List.mem_cons, List.not_mem_nil, List.mem_singleton, List.forall_mem_cons, not_or, not_false_eq_true, and_true, true_and, or_false, false_or, forall_eq_or_imp, forall_eq, implies_true, Nat.zero_add, Nat.reduceAdd, and_assoc, ptb_listA, factsP_listA, ptb_fam, factsP_fam, ptb_propA, factsP_propA, ptb_learnA, factsP_learnA, ptb_tabA, factsP_tabA, Nat.mul_one, ptrCells, strCells] at v1
                        go_wp2_with fail
                        first | apply Mem.atCall | apply Mem.atCode | apply Mem.atList
                        case h => repeat' (first | (with_reducible exact O) | (with_reducible apply Mem.drew) | (with_reducible apply Mem.drewN) | (with_reducible apply Mem.ext) | (with_reducible apply Mem.alloc) | (with_reducible apply Mem.setCell) | (simp only [ptb, ptb_upd, foots_cons, List.mem_cons, World.size_alloc, size_ext, World.size_setCell, true_or, or_true, eq_self_iff_true, ptb_listA, ptb_fam, ptb_propA, ptb_learnA, ptb_tabA]))
                        case' k =>
                          intro y1 O'
                          (try clear O)
                          have O := O'
                          clear O'
                          (first | simp only [sel, rst, List.cons_append, List.nil_append, World.size_alloc, size_ext, World.size_setCell, size_setMap, World.size_drew, size_drewN, upd, List.set_cons_zero, List.set_cons_succ, if_true, if_false, reduceIte, not_false_eq_true, ne_lt0, ne_lt1, ne_lt2, ne_lt3, ne_lt4, cs] at O | simp only [sel, rst, List.cons_append, List.nil_append, World.size_alloc, size_ext, World.size_setCell, size_setMap, World.size_drew, size_drewN, upd, List.set_cons_zero, List.set_cons_succ, if_true, if_false, reduceIte, not_false_eq_true, ne_lt0, ne_lt1, ne_lt2, ne_lt3, ne_lt4] at O | skip)
                          (try clear cs)
                          (try clear v1)
                          (try clear v2)
                          (try clear v3)
                        have hpre : Pre y1 [learnA lb mb q] := by
                          have O1 := O.front [false, false, false, false, false, false, false, true]
                          simp only [sel, rst, List.cons_append, List.nil_append] at O1
                          exact (O1.famTake HT.out).pre [true]
                        refine (lA_Chosen _ lb mb q hpre).mono ?_
                        rintro r y2 ⟨rfl, o⟩
                        replace O := O.callp [] o
                        clear o hpre
                        simp only [put, List.nil_append] at O
                        have hL := HI.out.law
                        obtain ⟨l1, l2, l3⟩ := hL
                        have hno := l1 q HQM.out
                        have hag : sm = true → q.is = true → q.chosen = v := fun h1 h2 => by
                          obtain ⟨q', hq', hi', hc'⟩ := HV.out h1
                          rw [← hc']
                          exact l3 q HQM.out q' hq' h2 hi'
                        have hnew : q.is = true → ∃ q' ∈ X'.st.learns, q'.is = true ∧ q'.chosen = q.chosen := fun h => ⟨q, HQM.out, h, rfl⟩
                        clear l1 l2 l3
                        generalize q.is = qi at hno hag hnew ⊢
                        generalize q.chosen = qc at hno hag hnew ⊢
                        skip
                        cases qi
                        · have hqc := hno rfl
                          subst hqc
                          clear hno hag hnew
                          cases sm
                          all_goals
                            have cs := O.facts
                            simp only [factsP, cellsP, roomP, foots_cons, foots_nil, foots_append, foot_pt, ptb, ptb_mapA, foot_mapA, factsP_mapA, foot_bun, List.append_nil, List.nil_append, List.cons_append, List.nodup_cons, List.nodup_nil, List.mem_cons, List.not_mem_nil, List.mem_singleton, List.forall_mem_cons, not_or, not_false_eq_true, and_true, true_and, or_false, false_or, forall_eq_or_imp, forall_eq, implies_true, Nat.zero_add, Nat.reduceAdd, and_assoc, ptb_listA, factsP_listA, ptb_fam, factsP_fam, ptb_propA, factsP_propA, ptb_learnA, factsP_learnA, ptb_tabA, factsP_tabA, Nat.mul_one, ptrCells, strCells] at cs
                            go_wp2_with fail
                            go_roundw
                            case rel => first | exact ⟨k + 1, v, _, by omega, by go_num, rfl, rfl, O, HV⟩ | exact ⟨k + 1, v, true, by omega, by go_num, rfl, rfl, O, Lib.hid (fun _ => HV.out trivial)⟩ | exact ⟨k + 1, v, false, by omega, by go_num, rfl, rfl, O, Lib.hid (fun h => by simp at h)⟩
                            case measure => simp [intOf]; omega
                        · have HN := Lib.hid (hnew rfl)
                          cases sm
                          · clear hno hag hnew
                            have cs := O.facts
                            simp only [factsP, cellsP, roomP, foots_cons, foots_nil, foots_append, foot_pt, ptb, ptb_mapA, foot_mapA, factsP_mapA, foot_bun, List.append_nil, List.nil_append, List.cons_append, List.nodup_cons, List.nodup_nil, List.mem_cons, List.not_mem_nil, List.mem_singleton, List.forall_mem_cons, not_or, not_false_eq_true, and_true, true_and, or_false, false_or, forall_eq_or_imp, forall_eq, implies_true, Nat.zero_add, Nat.reduceAdd, and_assoc, ptb_listA, factsP_listA, ptb_fam, factsP_fam, ptb_propA, factsP_propA, ptb_learnA, factsP_learnA, ptb_tabA, factsP_tabA, Nat.mul_one, ptrCells, strCells] at cs
                            go_wp2_with fail
                            go_roundw
                            case rel => exact ⟨k + 1, qc, true, by omega, by go_num, rfl, rfl, O, Lib.hid (fun _ => HN.out)⟩
                            case measure => simp [intOf]; omega
                          · have hqv := hag rfl rfl
                            subst hqv
                            clear hno hag hnew
                            have cs := O.facts
                            simp only [factsP, cellsP, roomP, foots_cons, foots_nil, foots_append, foot_pt, ptb, ptb_mapA, foot_mapA, factsP_mapA, foot_bun, List.append_nil, List.nil_append, List.cons_append, List.nodup_cons, List.nodup_nil, List.mem_cons, List.not_mem_nil, List.mem_singleton, List.forall_mem_cons, not_or, not_false_eq_true, and_true, true_and, or_false, false_or, forall_eq_or_imp, forall_eq, implies_true, Nat.zero_add, Nat.reduceAdd, and_assoc, ptb_listA, factsP_listA, ptb_fam, factsP_fam, ptb_propA, factsP_propA, ptb_learnA, factsP_learnA, ptb_tabA, factsP_tabA, Nat.mul_one, ptrCells, strCells] at cs
                            go_wp2_with fail
                            go_roundw
                            case rel => exact ⟨k + 1, qc, true, by omega, by go_num, rfl, rfl, O, Lib.hid (fun _ => HN.out)⟩
                            case measure => simp [intOf]; omega
                      · obtain rfl : k = 3 := by omega
                        try rw [show (((3 : Nat) : Int)) = 3 from rfl]
                        clear hk hk3
                        have hmine : sm = true → v ∈ P' := fun h => by
                          obtain ⟨q, hq, h1, h2⟩ := HV.out h
                          rw [← h2]
                          exact HI.out.law.2.1 q hq h1
                        have HMI := Lib.hid hmine
                        clear hmine HV
                        skip
                        have cs := O.facts
                        simp only [factsP, cellsP, roomP, foots_cons, foots_nil, foots_append, foot_pt, ptb, ptb_mapA, foot_mapA, factsP_mapA, foot_bun, List.append_nil, List.nil_append, List.cons_append, List.nodup_cons, List.nodup_nil, List.mem_cons, List.not_mem_nil, List.mem_singleton, List.forall_mem_cons, not_or, not_false_eq_true, and_true, true_and, or_false, false_or, forall_eq_or_imp, forall_eq, implies_true, Nat.zero_add, Nat.reduceAdd, and_assoc, ptb_listA, factsP_listA, ptb_fam, factsP_fam, ptb_propA, factsP_propA, ptb_learnA, factsP_learnA, ptb_tabA, factsP_tabA, Nat.mul_one, ptrCells, strCells] at cs
                        go_wp2_with fail
                        clear cs
                        go_loopw [24, 25] (fun s24 s25 wr => ∃ (k : Nat) (mine : Bool), k ≤ P'.length ∧ s25 = .int .i64 k ∧ s24 = .bool mine ∧ Mem w [] wr (listA 9 1 strCells PA' pc' P' :: X'.parts n xb) ∧ Hid (mine = (!sm || (P'.take k).any (fun x => x.toList == v.toList)))) (fun _ s25 _ => P'.length - (intOf s25).toNat)
                        case atStart => exact ⟨0, !sm, by omega, rfl, rfl, O, Lib.hid (by simp)⟩
                        case round =>
                          clear O
                          obtain ⟨k, mine, hk, rfl, rfl, OB, HMN⟩ := hrel
                          have O := OB
                          simp only [PxM.parts, PxM.cells] at O
                          clear OB
                          by_cases hkl : k < P'.length
                          · have hkli : (k : Int) < P'.length := by omega
                            obtain ⟨s, hs⟩ : ∃ s, P'[k]? = some s := ⟨_, List.getElem?_eq_getElem hkl⟩
                            have htk : P'.take (k + 1) = P'.take k ++ [s] := by
                              rw [List.take_succ_eq_append_getElem hkl]
                              rw [List.getElem?_eq_getElem hkl] at hs
                              injection hs with hs
                              rw [hs]
                            have HS := Lib.hid hs
                            have HTK := Lib.hid htk
                            clear hs htk
                            cases mine
                            · obtain ⟨g, hg, _⟩ := listA_get (cs := strCells) (fun _ => rfl) (O.hold (listA 9 1 strCells PA' pc' P') (by simp)) HS.out
                              have hPA := hg
                              clear hg
                              subst hPA
                              by_cases heq : s.toList = v.toList
                              · skip
                                have cs := O.facts
                                simp only [factsP, cellsP, roomP, foots_cons, foots_nil, foots_append, foot_pt, ptb, ptb_mapA, foot_mapA, factsP_mapA, foot_bun, List.append_nil, List.nil_append, List.cons_append, List.nodup_cons, List.nodup_nil, List.mem_cons, List.not_mem_nil, List.mem_singleton, List.forall_mem_cons, not_or, not_false_eq_true, and_true, true_and, or_false, false_or, forall_eq_or_imp, forall_eq, implies_true, Nat.zero_add, Nat.reduceAdd, and_assoc, ptb_listA, factsP_listA, ptb_fam, factsP_fam, ptb_propA, factsP_propA, ptb_learnA, factsP_learnA, ptb_tabA, factsP_tabA, Nat.mul_one, ptrCells, strCells] at cs
                                have v1 := (listA_at (cs := strCells) (fun _ => rfl) (O.hold (listA 9 1 strCells (some ⟨g, 0, none⟩) pc' P') (by simp)) HS.out)
                                try simp only [cellsQ, roomP, and_assoc, and_true, true_and, Nat.add_zero, Nat.zero_add, Nat.reduceAdd, factsP, cellsP, roomP, foots_cons, foots_nil, foots_append, foot_pt, ptb, ptb_mapA, foot_mapA, factsP_mapA, foot_bun, List.append_nil, List.nil_append, List.cons_append, List.nodup_cons, List.nodup_nil, List.mem_cons, List.not_mem_nil, List.mem_singleton, List.forall_mem_cons, not_or, not_false_eq_true, and_true, true_and, or_false, false_or, forall_eq_or_imp, forall_eq, implies_true, Nat.zero_add, Nat.reduceAdd, and_assoc, ptb_listA, factsP_listA, ptb_fam, factsP_fam, ptb_propA, factsP_propA, ptb_learnA, factsP_learnA, ptb_tabA, factsP_tabA, Nat.mul_one, ptrCells, strCells] at v1
                                go_wp2_with fail
                                go_roundw
                                case rel => exact ⟨k + 1, true, by omega, by go_num, rfl, O, Lib.hid (by rw [HTK.out, List.any_append]; simp [heq])⟩
                                case measure => simp [intOf]; omega
                              · have heq2 : (s.toList == v.toList) = false := by simpa using heq
                                skip
                                have cs := O.facts
                                simp only [factsP, cellsP, roomP, foots_cons, foots_nil, foots_append, foot_pt, ptb, ptb_mapA, foot_mapA, factsP_mapA, foot_bun, List.append_nil, List.nil_append, List.cons_append, List.nodup_cons, List.nodup_nil, List.mem_cons, List.not_mem_nil, List.mem_singleton, List.forall_mem_cons, not_or, not_false_eq_true, and_true, true_and, or_false, false_or, forall_eq_or_imp, forall_eq, implies_true, Nat.zero_add, Nat.reduceAdd, and_assoc, ptb_listA, factsP_listA, ptb_fam, factsP_fam, ptb_propA, factsP_propA, ptb_learnA, factsP_learnA, ptb_tabA, factsP_tabA, Nat.mul_one, ptrCells, strCells] at cs
                                have v1 := (listA_at (cs := strCells) (fun _ => rfl) (O.hold (listA 9 1 strCells (some ⟨g, 0, none⟩) pc' P') (by simp)) HS.out)
                                try simp only [cellsQ, roomP, and_assoc, and_true, true_and, Nat.add_zero, Nat.zero_add, Nat.reduceAdd, factsP, cellsP, roomP, foots_cons, foots_nil, foots_append, foot_pt, ptb, ptb_mapA, foot_mapA, factsP_mapA, foot_bun, List.append_nil, List.nil_append, List.cons_append, List.nodup_cons, List.nodup_nil, List.mem_cons, List.not_mem_nil, List.mem_singleton, List.forall_mem_cons, not_or, not_false_eq_true, and_true, true_and, or_false, false_or, forall_eq_or_imp, forall_eq, implies_true, Nat.zero_add, Nat.reduceAdd, and_assoc, ptb_listA, factsP_listA, ptb_fam, factsP_fam, ptb_propA, factsP_propA, ptb_learnA, factsP_learnA, ptb_tabA, factsP_tabA, Nat.mul_one, ptrCells, strCells] at v1
                                go_wp2_with fail
                                go_roundw
                                case rel => exact ⟨k + 1, false, by omega, by go_num, rfl, O, Lib.hid (by rw [HTK.out, List.any_append, ← Bool.or_assoc, ← HMN.out]; simp [heq2])⟩
                                case measure => simp [intOf]; omega
                            · skip
                              have cs := O.facts
                              simp only [factsP, cellsP, roomP, foots_cons, foots_nil, foots_append, foot_pt, ptb, ptb_mapA, foot_mapA, factsP_mapA, foot_bun, List.append_nil, List.nil_append, List.cons_append, List.nodup_cons, List.nodup_nil, List.mem_cons, List.not_mem_nil, List.mem_singleton, List.forall_mem_cons, not_or, not_false_eq_true, and_true, true_and, or_false, false_or, forall_eq_or_imp, forall_eq, implies_true, Nat.zero_add, Nat.reduceAdd, and_assoc, ptb_listA, factsP_listA, ptb_fam, factsP_fam, ptb_propA, factsP_propA, ptb_learnA, factsP_learnA, ptb_tabA, factsP_tabA, Nat.mul_one, ptrCells, strCells] at cs
                              go_wp2_with fail
                              go_roundw
                              case rel => exact ⟨k + 1, true, by omega, by go_num, rfl, O, Lib.hid (by rw [HTK.out, List.any_append, ← Bool.or_assoc, ← HMN.out]; simp)⟩
                              case measure => simp [intOf]; omega
                          · obtain rfl : k = P'.length := by omega
                            have hm1 : mine = true := by
                              rw [HMN.out, List.take_length]
                              cases hsm : sm
                              · rfl
                              · have := HMI.out hsm
                                simp only [Bool.not_true, Bool.false_or, List.any_eq_true]
                                exact ⟨v, this, by simp⟩
                            subst hm1
                            clear HMN
                            skip
                            have cs := O.facts
                            simp only [factsP, cellsP, roomP, foots_cons, foots_nil, foots_append, foot_pt, ptb, ptb_mapA, foot_mapA, factsP_mapA, foot_bun, List.append_nil, List.nil_append, List.cons_append, List.nodup_cons, List.nodup_nil, List.mem_cons, List.not_mem_nil, List.mem_singleton, List.forall_mem_cons, not_or, not_false_eq_true, and_true, true_and, or_false, false_or, forall_eq_or_imp, forall_eq, implies_true, Nat.zero_add, Nat.reduceAdd, and_assoc, ptb_listA, factsP_listA, ptb_fam, factsP_fam, ptb_propA, factsP_propA, ptb_learnA, factsP_learnA, ptb_tabA, factsP_tabA, Nat.mul_one, ptrCells, strCells] at cs
                            go_wp2_with fail
                            go_roundw
                            case rel => exact ⟨i + 1, X', P', PA', pc', by omega, by omega, by go_num, rfl, O, Lib.hid ⟨HI.out, HR.out.1, HR.out.2.1, HM.out, HPL.out⟩⟩
                            case measure => simp [intOf]; omega
end Go.Proofs.Ytkhpikjmhamppaa
