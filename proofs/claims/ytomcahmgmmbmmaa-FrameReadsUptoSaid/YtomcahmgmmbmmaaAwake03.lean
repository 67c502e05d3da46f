/- WALKS: the law's own questions (awake, Same, own, still); where there is no reader. -/
import Derived.Test.YtomcahmgmmbmmaaReader03
import Derived.Lib.SlBytesConst
set_option linter.unusedVariables false
set_option linter.unusedSimpArgs false
namespace Go.Proofs.Ytomcahmgmmbmmaa
open Go.RowKit Go.Tk
def nine : List UInt8 := [49, 50, 51, 52, 53, 54, 55, 56, 57]
theorem crc_nine : crc 0#32 nine = 3808858755#32 := by decide +kernel
theorem wrap_nil : wrapP [] = [84, 78, 0, 0, 0, 0, 199, 75, 103, 72] := by decide +kernel
theorem rd_alloc (w : World) (l : List UInt8) (fz : Nat × Nat) : Rd (w.alloc (.cells (l.flatMap byteCells).toArray 5 fz)) (some ⟨w.heap.size, 0, none⟩) l := ⟨fun i x hi => by
  refine ⟨_, _, rfl, by simp, ?_⟩
  have h2 := flatMap_at (cs := byteCells) (size := 1) (fun _ => rfl) l i x hi 0 (by omega)
  rw [Nat.mul_one, Nat.add_zero] at h2
  have hb : (w.alloc (.cells (l.flatMap byteCells).toArray 5 fz)).heap[w.heap.size]? = some (.cells (l.flatMap byteCells).toArray 5 fz) := heap_alloc_new w _
  unfold World.cell?
  rw [hb]
  simp only [Nat.zero_add, List.getElem?_toArray, h2]
  rfl⟩
set_option maxRecDepth 100000 in
set_option maxHeartbeats 8000000 in
theorem law_awake (w : World) : Calls Try.prog 8 #[] w (fun e w' => e = .returned (.bool true) ∧ Mem w [] w' []) := by
  have O : Mem w [] w [] := Mem.begin
  go_enter Try.func8, Try.ntmps8
  have cs := O.facts
  simp only [factsP, cellsP, roomP, foots_cons, foots_nil, foots_append, foot_pt, ptb, ptb_mapA, foot_mapA, factsP_mapA, foot_bun, List.append_nil, List.nil_append, List.cons_append, List.nodup_cons, List.nodup_nil, List.mem_cons, List.not_mem_nil, List.mem_singleton, List.forall_mem_cons, not_or, not_false_eq_true, and_true, true_and, or_false, false_or, forall_eq_or_imp, forall_eq, implies_true, Nat.zero_add, Nat.reduceAdd, and_assoc, ptb_listA, factsP_listA, Nat.mul_one, rdL] at cs
  go_wp2_with fail
  first | apply Mem.atCall | apply Mem.atCode | apply Mem.atList
  case h => repeat' (first | (with_reducible exact O) | (with_reducible apply Mem.drew) | (with_reducible apply Mem.drewN) | (with_reducible apply Mem.ext) | (with_reducible apply Mem.alloc) | (with_reducible apply Mem.setCell) | (simp only [ptb, ptb_upd, foots_cons, List.mem_cons, World.size_alloc, size_ext, World.size_setCell, true_or, or_true, eq_self_iff_true]))
  case' k =>
    intro w1 O'
    (try clear O)
    have O := O'
    clear O'
    (first | simp only [sel, rst, List.cons_append, List.nil_append, World.size_alloc, size_ext, World.size_setCell, size_setMap, World.size_drew, size_drewN, upd, List.set_cons_zero, List.set_cons_succ, if_true, if_false, reduceIte, not_false_eq_true, ne_lt0, ne_lt1, ne_lt2, ne_lt3, ne_lt4, cs] at O | simp only [sel, rst, List.cons_append, List.nil_append, World.size_alloc, size_ext, World.size_setCell, size_setMap, World.size_drew, size_drewN, upd, List.set_cons_zero, List.set_cons_succ, if_true, if_false, reduceIte, not_false_eq_true, ne_lt0, ne_lt1, ne_lt2, ne_lt3, ne_lt4] at O | skip)
    (try clear cs)
    (try clear v1)
    (try clear v2)
    (try clear v3)
  refine (fr_Wrap _ none 0 [] Rd.nil (by simp)).mono ?_
  rintro e w2 ⟨A, c, rfl, o⟩
  replace O := O.callp [] o
  clear o
  simp only [put, List.cons_append, List.nil_append] at O
  rw [wrap_nil] at O ⊢
  have hcv := fun (C : Array Value) (n c : Nat) => Lib.run_convert_bytes_const (P := Try.prog) w2 22 5 C n c Try.underlying22 Try.underlying5
  obtain ⟨g, rfl, _⟩ := listA_get (cs := byteCells) (fun _ => rfl) (O.hold (bytesA A c [84, 78, 0, 0, 0, 0, 199, 75, 103, 72]) (by simp)) (k := 6) rfl
  have cs := O.facts
  simp only [factsP, cellsP, roomP, foots_cons, foots_nil, foots_append, foot_pt, ptb, ptb_mapA, foot_mapA, factsP_mapA, foot_bun, List.append_nil, List.nil_append, List.cons_append, List.nodup_cons, List.nodup_nil, List.mem_cons, List.not_mem_nil, List.mem_singleton, List.forall_mem_cons, not_or, not_false_eq_true, and_true, true_and, or_false, false_or, forall_eq_or_imp, forall_eq, implies_true, Nat.zero_add, Nat.reduceAdd, and_assoc, ptb_listA, factsP_listA, Nat.mul_one, rdL] at cs
  go_wp2_with fail
  have O1 := O.alloc_ (.cells (nine.flatMap byteCells).toArray 5 (9, 10))
  have RN := rd_alloc w2 nine (9, 10)
  change Calls _ _ _ (w2.alloc (.cells (nine.flatMap byteCells).toArray 5 (9, 10))) _
  generalize w2.alloc (.cells (nine.flatMap byteCells).toArray 5 (9, 10)) = w3 at O1 RN ⊢
  clear O cs
  have O := O1
  clear O1
  have C := fr_Sum _ 0#32 (some ⟨w2.heap.size, 0, none⟩) 9 nine RN (by simp [nine])
  rw [crc_nine] at C
  have CC := Lib.hid C
  clear C RN hcv
  refine CC.out.mono ?_
  rintro e w4 ⟨rfl, o⟩
  replace O := O.callp [] o
  simp only [put, List.append_nil] at O
  clear o CC
  have hcell := listA_at (cs := byteCells) (g := g) (fun _ => rfl) (O.hold (bytesA (some ⟨g, 0, none⟩) c [84, 78, 0, 0, 0, 0, 199, 75, 103, 72]) (by simp)) (k := 6) (a := 199) rfl
  simp only [cellsQ, byteCells, roomP, and_assoc] at hcell
  have hw : w32 3808858755#32 = .int .u32 3808858755 := rfl
  rw [hw]
  try simp only [List.nil_append] at O
  have cs := O.facts
  simp only [factsP, cellsP, roomP, foots_cons, foots_nil, foots_append, foot_pt, ptb, ptb_mapA, foot_mapA, factsP_mapA, foot_bun, List.append_nil, List.nil_append, List.cons_append, List.nodup_cons, List.nodup_nil, List.mem_cons, List.not_mem_nil, List.mem_singleton, List.forall_mem_cons, not_or, not_false_eq_true, and_true, true_and, or_false, false_or, forall_eq_or_imp, forall_eq, implies_true, Nat.zero_add, Nat.reduceAdd, and_assoc, ptb_listA, factsP_listA, Nat.mul_one, rdL] at cs
  go_wp2_with fail
  go_ret
  exact ⟨rfl, O.fr0⟩
set_option maxRecDepth 100000 in
set_option maxHeartbeats 8000000 in
theorem fr_nil_Feed (w : World) (v : Value) : Calls Try.prog 18 #[.pointer none, v] w (fun e w' => e = .returned (.int .i64 1) ∧ Mem w [] w' []) := by
  have O : Mem w [] w [] := Mem.begin
  go_enter Try.func18, Try.ntmps18
  have cs := O.facts
  simp only [factsP, cellsP, roomP, foots_cons, foots_nil, foots_append, foot_pt, ptb, ptb_mapA, foot_mapA, factsP_mapA, foot_bun, List.append_nil, List.nil_append, List.cons_append, List.nodup_cons, List.nodup_nil, List.mem_cons, List.not_mem_nil, List.mem_singleton, List.forall_mem_cons, not_or, not_false_eq_true, and_true, true_and, or_false, false_or, forall_eq_or_imp, forall_eq, implies_true, Nat.zero_add, Nat.reduceAdd, and_assoc, ptb_listA, factsP_listA, Nat.mul_one, rdL] at cs
  go_wp2_with fail
  go_ret
  exact ⟨rfl, O⟩
set_option maxRecDepth 100000 in
set_option maxHeartbeats 8000000 in
theorem fr_nil_Next (w : World) : Calls Try.prog 19 #[.pointer none] w (fun e w' => e = .returned (.tuple #[.slice none 0 0, .bool false, .int .i64 1]) ∧ Mem w [] w' []) := by
  have O : Mem w [] w [] := Mem.begin
  go_enter Try.func19, Try.ntmps19
  have cs := O.facts
  simp only [factsP, cellsP, roomP, foots_cons, foots_nil, foots_append, foot_pt, ptb, ptb_mapA, foot_mapA, factsP_mapA, foot_bun, List.append_nil, List.nil_append, List.cons_append, List.nodup_cons, List.nodup_nil, List.mem_cons, List.not_mem_nil, List.mem_singleton, List.forall_mem_cons, not_or, not_false_eq_true, and_true, true_and, or_false, false_or, forall_eq_or_imp, forall_eq, implies_true, Nat.zero_add, Nat.reduceAdd, and_assoc, ptb_listA, factsP_listA, Nat.mul_one, rdL] at cs
  go_wp2_with fail
  refine bodyPost_ret (v := .tuple #[.slice none 0 0, .bool false, .int .i64 1]) (by simp [results, Try.results19, go_sem]) rfl ⟨rfl, O⟩
set_option maxRecDepth 100000 in
set_option maxHeartbeats 8000000 in
theorem fr_nil_Waiting (w : World) : Calls Try.prog 20 #[.pointer none] w (fun e w' => e = .returned (.int .i64 0) ∧ Mem w [] w' []) := by
  have O : Mem w [] w [] := Mem.begin
  go_enter Try.func20, Try.ntmps20
  have cs := O.facts
  simp only [factsP, cellsP, roomP, foots_cons, foots_nil, foots_append, foot_pt, ptb, ptb_mapA, foot_mapA, factsP_mapA, foot_bun, List.append_nil, List.nil_append, List.cons_append, List.nodup_cons, List.nodup_nil, List.mem_cons, List.not_mem_nil, List.mem_singleton, List.forall_mem_cons, not_or, not_false_eq_true, and_true, true_and, or_false, false_or, forall_eq_or_imp, forall_eq, implies_true, Nat.zero_add, Nat.reduceAdd, and_assoc, ptb_listA, factsP_listA, Nat.mul_one, rdL] at cs
  go_wp2_with fail
  go_ret
  exact ⟨rfl, O⟩
set_option maxRecDepth 100000 in
set_option maxHeartbeats 8000000 in
/-- u == v of bytes -/
theorem r_Same (w : World) (A : Option Addr) (c : Nat) (l : List UInt8) (B : Option Addr) (d : Nat) (m : List UInt8) (h : Rd w A l) (h2 : Rd w B m) (hl : l.length ≤ 2000000) :
    Calls Try.prog 14 #[.slice A l.length c, .slice B m.length d] w (fun e w' => e = .returned (.bool (decide (l = m))) ∧ Mem w [] w' []) := by
  have O : Mem w [] w [] := Mem.begin
  obtain ⟨v, hv⟩ : ∃ v, v = decide (l = m) := ⟨_, rfl⟩
  rw [← hv]
  have HV := Lib.hid hv
  clear hv
  have H := Lib.hid h
  have H2 := Lib.hid h2
  clear h h2
  by_cases hlen : l.length = m.length
  · have HL := Lib.hid hlen
    have hb : ((l.length : Int) == (m.length : Int)) = true := by simp [hlen]
    have hb2 : ((l.length : Int) = (m.length : Int)) = True := by simp [hlen]
    clear hlen
    go_enter Try.func14, Try.ntmps14
    have cs := O.facts
    simp only [factsP, cellsP, roomP, foots_cons, foots_nil, foots_append, foot_pt, ptb, ptb_mapA, foot_mapA, factsP_mapA, foot_bun, List.append_nil, List.nil_append, List.cons_append, List.nodup_cons, List.nodup_nil, List.mem_cons, List.not_mem_nil, List.mem_singleton, List.forall_mem_cons, not_or, not_false_eq_true, and_true, true_and, or_false, false_or, forall_eq_or_imp, forall_eq, implies_true, Nat.zero_add, Nat.reduceAdd, and_assoc, ptb_listA, factsP_listA, Nat.mul_one, rdL] at cs
    go_wp2_with fail
    clear hb hb2
    go_loopw [5] (fun s5 wr => ∃ k : Nat, k ≤ l.length ∧ s5 = .int .i64 k ∧ Mem w [] wr [] ∧ Hid (l.take k = m.take k)) (fun s5 _ => l.length - (intOf s5).toNat)
    case atStart => exact ⟨0, by omega, rfl, O, Lib.hid rfl⟩
    case round =>
      clear O
      obtain ⟨k, hk, rfl, O, HK⟩ := hrel
      by_cases hlt : k < l.length
      · have hlm : k < m.length := by have := HL.out; omega
        obtain ⟨x, hx⟩ : ∃ x, l[k]? = some x := ⟨_, List.getElem?_eq_getElem hlt⟩
        obtain ⟨y, hy⟩ : ∃ y, m[k]? = some y := ⟨_, List.getElem?_eq_getElem hlm⟩
        obtain ⟨b1, o1, rfl, hb1⟩ := H.out.addr (by omega)
        obtain ⟨b2, o2, rfl, hb2⟩ := H2.out.addr (by omega)
        have V := Lib.hid (fun W (hW : Fr [] w W) => And.intro (roomP_of (Nat.lt_of_lt_of_le hb1 hW.size)) ((H.out.fr hW).at_ hx))
        have V2 := Lib.hid (fun W (hW : Fr [] w W) => And.intro (roomP_of (Nat.lt_of_lt_of_le hb2 hW.size)) ((H2.out.fr hW).at_ hy))
        have htk : l.take (k + 1) = l.take k ++ [x] := by rw [List.take_succ_eq_append_getElem hlt, (List.getElem?_eq_some_iff.1 hx).2]
        have htm : m.take (k + 1) = m.take k ++ [y] := by rw [List.take_succ_eq_append_getElem hlm, (List.getElem?_eq_some_iff.1 hy).2]
        have HT := Lib.hid (And.intro htk htm)
        have HX := Lib.hid (And.intro hx hy)
        clear htk htm hx hy
        skip
        by_cases hxy : x = y
        · subst hxy
          have cs := O.facts
          simp only [factsP, cellsP, roomP, foots_cons, foots_nil, foots_append, foot_pt, ptb, ptb_mapA, foot_mapA, factsP_mapA, foot_bun, List.append_nil, List.nil_append, List.cons_append, List.nodup_cons, List.nodup_nil, List.mem_cons, List.not_mem_nil, List.mem_singleton, List.forall_mem_cons, not_or, not_false_eq_true, and_true, true_and, or_false, false_or, forall_eq_or_imp, forall_eq, implies_true, Nat.zero_add, Nat.reduceAdd, and_assoc, ptb_listA, factsP_listA, Nat.mul_one, rdL] at cs
          have v1 := V.out _ O.fr
          simp only [roomP, and_assoc] at v1
          have v2 := V2.out _ O.fr
          simp only [roomP, and_assoc] at v2
          go_wp2_with fail
          apply region_quiet_mem (by kernel_rfl) (by kernel_rfl)
          case O => repeat' (first | (with_reducible exact O) | (with_reducible apply Mem.drew) | (with_reducible apply Mem.drewN) | (with_reducible apply Mem.ext) | (with_reducible apply Mem.alloc) | (with_reducible apply Mem.setCell) | (simp only [ptb, ptb_upd, foots_cons, List.mem_cons, World.size_alloc, size_ext, World.size_setCell, true_or, or_true, eq_self_iff_true]))
          case' h =>
            intro w1 O'
            (try clear O)
            have O := O'
            clear O'
            (first | simp only [sel, rst, List.cons_append, List.nil_append, World.size_alloc, size_ext, World.size_setCell, size_setMap, World.size_drew, size_drewN, upd, List.set_cons_zero, List.set_cons_succ, if_true, if_false, reduceIte, not_false_eq_true, ne_lt0, ne_lt1, ne_lt2, ne_lt3, ne_lt4, cs] at O | simp only [sel, rst, List.cons_append, List.nil_append, World.size_alloc, size_ext, World.size_setCell, size_setMap, World.size_drew, size_drewN, upd, List.set_cons_zero, List.set_cons_succ, if_true, if_false, reduceIte, not_false_eq_true, ne_lt0, ne_lt1, ne_lt2, ne_lt3, ne_lt4] at O | skip)
            (try clear cs)
            (try clear v1)
            (try clear v2)
            (try clear v3)
          have cs := O.facts
          simp only [factsP, cellsP, roomP, foots_cons, foots_nil, foots_append, foot_pt, ptb, ptb_mapA, foot_mapA, factsP_mapA, foot_bun, List.append_nil, List.nil_append, List.cons_append, List.nodup_cons, List.nodup_nil, List.mem_cons, List.not_mem_nil, List.mem_singleton, List.forall_mem_cons, not_or, not_false_eq_true, and_true, true_and, or_false, false_or, forall_eq_or_imp, forall_eq, implies_true, Nat.zero_add, Nat.reduceAdd, and_assoc, ptb_listA, factsP_listA, Nat.mul_one, rdL] at cs
          have v1 := V.out _ O.fr
          simp only [roomP, and_assoc] at v1
          have v2 := V2.out _ O.fr
          simp only [roomP, and_assoc] at v2
          repeat (go_big_quiet_step ((fail)))
          refine wpQuiet_nil ?_
          intro w2 hq
          (try clear cs)
          (try clear v1)
          (try clear v2)
          (try clear v3)
          replace O := O.qext hq
          clear hq
          have cs := O.facts
          simp only [factsP, cellsP, roomP, foots_cons, foots_nil, foots_append, foot_pt, ptb, ptb_mapA, foot_mapA, factsP_mapA, foot_bun, List.append_nil, List.nil_append, List.cons_append, List.nodup_cons, List.nodup_nil, List.mem_cons, List.not_mem_nil, List.mem_singleton, List.forall_mem_cons, not_or, not_false_eq_true, and_true, true_and, or_false, false_or, forall_eq_or_imp, forall_eq, implies_true, Nat.zero_add, Nat.reduceAdd, and_assoc, ptb_listA, factsP_listA, Nat.mul_one, rdL] at cs
          have v1 := V.out _ O.fr
          simp only [roomP, and_assoc] at v1
          have v2 := V2.out _ O.fr
          simp only [roomP, and_assoc] at v2
          go_wp2_with fail
          go_roundw
          case rel => exact ⟨k + 1, by omega, by go_num, O, Lib.hid (by rw [HT.out.1, HT.out.2, HK.out])⟩
          case measure => simp [intOf]; omega
        · have hne := byte_ne hxy
          have hv := HV.out
          have hlm2 : ¬ l = m := fun e => by
            have := HX.out
            rw [e, this.2] at this
            exact hxy (by simpa using this.1.symm)
          rw [decide_eq_false hlm2] at hv
          subst hv
          clear hxy hlm2
          have cs := O.facts
          simp only [factsP, cellsP, roomP, foots_cons, foots_nil, foots_append, foot_pt, ptb, ptb_mapA, foot_mapA, factsP_mapA, foot_bun, List.append_nil, List.nil_append, List.cons_append, List.nodup_cons, List.nodup_nil, List.mem_cons, List.not_mem_nil, List.mem_singleton, List.forall_mem_cons, not_or, not_false_eq_true, and_true, true_and, or_false, false_or, forall_eq_or_imp, forall_eq, implies_true, Nat.zero_add, Nat.reduceAdd, and_assoc, ptb_listA, factsP_listA, Nat.mul_one, rdL] at cs
          have v1 := V.out _ O.fr
          simp only [roomP, and_assoc] at v1
          have v2 := V2.out _ O.fr
          simp only [roomP, and_assoc] at v2
          go_wp2_with fail
          apply region_quiet_mem (by kernel_rfl) (by kernel_rfl)
          case O => repeat' (first | (with_reducible exact O) | (with_reducible apply Mem.drew) | (with_reducible apply Mem.drewN) | (with_reducible apply Mem.ext) | (with_reducible apply Mem.alloc) | (with_reducible apply Mem.setCell) | (simp only [ptb, ptb_upd, foots_cons, List.mem_cons, World.size_alloc, size_ext, World.size_setCell, true_or, or_true, eq_self_iff_true]))
          case' h =>
            intro w1 O'
            (try clear O)
            have O := O'
            clear O'
            (first | simp only [sel, rst, List.cons_append, List.nil_append, World.size_alloc, size_ext, World.size_setCell, size_setMap, World.size_drew, size_drewN, upd, List.set_cons_zero, List.set_cons_succ, if_true, if_false, reduceIte, not_false_eq_true, ne_lt0, ne_lt1, ne_lt2, ne_lt3, ne_lt4, cs] at O | simp only [sel, rst, List.cons_append, List.nil_append, World.size_alloc, size_ext, World.size_setCell, size_setMap, World.size_drew, size_drewN, upd, List.set_cons_zero, List.set_cons_succ, if_true, if_false, reduceIte, not_false_eq_true, ne_lt0, ne_lt1, ne_lt2, ne_lt3, ne_lt4] at O | skip)
            (try clear cs)
            (try clear v1)
            (try clear v2)
            (try clear v3)
          have cs := O.facts
          simp only [factsP, cellsP, roomP, foots_cons, foots_nil, foots_append, foot_pt, ptb, ptb_mapA, foot_mapA, factsP_mapA, foot_bun, List.append_nil, List.nil_append, List.cons_append, List.nodup_cons, List.nodup_nil, List.mem_cons, List.not_mem_nil, List.mem_singleton, List.forall_mem_cons, not_or, not_false_eq_true, and_true, true_and, or_false, false_or, forall_eq_or_imp, forall_eq, implies_true, Nat.zero_add, Nat.reduceAdd, and_assoc, ptb_listA, factsP_listA, Nat.mul_one, rdL] at cs
          have v1 := V.out _ O.fr
          simp only [roomP, and_assoc] at v1
          have v2 := V2.out _ O.fr
          simp only [roomP, and_assoc] at v2
          repeat (go_big_quiet_step ((fail)))
          refine wpQuiet_nil ?_
          intro w2 hq
          (try clear cs)
          (try clear v1)
          (try clear v2)
          (try clear v3)
          replace O := O.qext hq
          clear hq
          have cs := O.facts
          simp only [factsP, cellsP, roomP, foots_cons, foots_nil, foots_append, foot_pt, ptb, ptb_mapA, foot_mapA, factsP_mapA, foot_bun, List.append_nil, List.nil_append, List.cons_append, List.nodup_cons, List.nodup_nil, List.mem_cons, List.not_mem_nil, List.mem_singleton, List.forall_mem_cons, not_or, not_false_eq_true, and_true, true_and, or_false, false_or, forall_eq_or_imp, forall_eq, implies_true, Nat.zero_add, Nat.reduceAdd, and_assoc, ptb_listA, factsP_listA, Nat.mul_one, rdL] at cs
          have v1 := V.out _ O.fr
          simp only [roomP, and_assoc] at v1
          have v2 := V2.out _ O.fr
          simp only [roomP, and_assoc] at v2
          go_wp2_with fail
          go_ret
          exact ⟨rfl, O⟩
      · obtain rfl : k = l.length := by omega
        have hv := HV.out
        have he : l = m := by
          have := HK.out
          rw [List.take_length, HL.out, List.take_length] at this
          exact this
        rw [decide_eq_true he] at hv
        subst hv
        clear he HK
        skip
        have cs := O.facts
        simp only [factsP, cellsP, roomP, foots_cons, foots_nil, foots_append, foot_pt, ptb, ptb_mapA, foot_mapA, factsP_mapA, foot_bun, List.append_nil, List.nil_append, List.cons_append, List.nodup_cons, List.nodup_nil, List.mem_cons, List.not_mem_nil, List.mem_singleton, List.forall_mem_cons, not_or, not_false_eq_true, and_true, true_and, or_false, false_or, forall_eq_or_imp, forall_eq, implies_true, Nat.zero_add, Nat.reduceAdd, and_assoc, ptb_listA, factsP_listA, Nat.mul_one, rdL] at cs
        go_wp2_with fail
        go_ret
        exact ⟨rfl, O⟩
  · have hv := HV.out
    rw [decide_eq_false (fun e => hlen (by rw [e]))] at hv
    subst hv
    have hb : ((l.length : Int) == (m.length : Int)) = false := by simp; omega
    have hb2 : ((l.length : Int) = (m.length : Int)) = False := by simp; omega
    have hb3 : ¬ (l.length = m.length) := hlen
    go_enter Try.func14, Try.ntmps14
    skip
    have cs := O.facts
    simp only [factsP, cellsP, roomP, foots_cons, foots_nil, foots_append, foot_pt, ptb, ptb_mapA, foot_mapA, factsP_mapA, foot_bun, List.append_nil, List.nil_append, List.cons_append, List.nodup_cons, List.nodup_nil, List.mem_cons, List.not_mem_nil, List.mem_singleton, List.forall_mem_cons, not_or, not_false_eq_true, and_true, true_and, or_false, false_or, forall_eq_or_imp, forall_eq, implies_true, Nat.zero_add, Nat.reduceAdd, and_assoc, ptb_listA, factsP_listA, Nat.mul_one, rdL] at cs
    go_wp2_with fail
    go_ret
    exact ⟨rfl, O⟩
end Go.Proofs.Ytomcahmgmmbmmaa
