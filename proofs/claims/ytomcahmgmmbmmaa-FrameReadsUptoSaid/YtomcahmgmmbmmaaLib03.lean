/- WALKS: the library's Grow, Clone, Concat of bytes. -/
import Derived.Test.YtomcahmgmmbmmaaNum03
import Derived.Lib.AppendZerosOnto
set_option linter.unusedVariables false
set_option linter.unusedSimpArgs false
namespace Go.Proofs.Ytomcahmgmmbmmaa
open Go.RowKit Go.Tk
abbrev bytesA (A : Option Addr) (c : Nat) (l : List UInt8) : Asn := listA 5 1 byteCells A c l
/-- slices.Grow of none -/
theorem fr_Grow_mem (w w' : World) (n c : Nat) (xs : Array Value) (hw : w' = w.drew.alloc (.cells xs 5)) (hx : xs.size = c) (hc : c ≤ maxLen) {w0 : World} {F : List Nat} {L : List Asn} (O : Mem w0 F w L) : Mem w0 F w' (bytesA (some ⟨w.heap.size, 0, none⟩) c [] :: L) := by
  subst hw
  have h2 := O.drew.alloc xs.toList 5
  have e : w.drew.alloc (.cells xs.toList.toArray 5 (0, 0)) = w.drew.alloc (.cells xs 5) := by simp
  rw [e] at h2
  exact Mem.listShut (l := []) (tail := xs.toList) (fun _ => rfl) (by simpa using h2) (by simp [hx]) (Nat.zero_le _) hc
set_option maxRecDepth 100000 in
set_option maxHeartbeats 4000000 in
theorem fr_Grow (w : World) (n : Nat) (hn : n ≤ 2000000) :
    Calls Try.prog 31 #[.slice none 0 0, .int .i64 (n : Int)] w (fun e w' => ∃ A c, e = .returned (.slice A 0 c) ∧ Mem w [] w' [bytesA A c []]) := by
  have O : Mem w [] w [] := Mem.begin
  obtain ⟨i, v, hi, hz, hsz, hby, hvs, _⟩ := byteTy.info
  have h3 : ¬ ((n : Int) < 0) := by omega
  rcases Nat.eq_zero_or_pos n with rfl | hp
  · go_enter Try.func31, Try.ntmps31
    have cs := O.facts
    simp only [factsP, cellsP, roomP, foots_cons, foots_nil, foots_append, foot_pt, ptb, ptb_mapA, foot_mapA, factsP_mapA, foot_bun, List.append_nil, List.nil_append, List.cons_append, List.nodup_cons, List.nodup_nil, List.mem_cons, List.not_mem_nil, List.mem_singleton, List.forall_mem_cons, not_or, not_false_eq_true, and_true, true_and, or_false, false_or, forall_eq_or_imp, forall_eq, implies_true, Nat.zero_add, Nat.reduceAdd, and_assoc, ptb_listA, factsP_listA, Nat.mul_one] at cs
    go_wp2_with fail
    go_ret
    exact ⟨none, 0, rfl, O.listNil⟩
  · have hrz : ∀ ty, (Builtin.append_ #[22, 3] ty #[.slice none 0 0, .int .i64 (n : Int)]).run Try.prog w = .ok (.slice (some ⟨w.heap.size, 0, none⟩) n (grownCap w n 0 5)) (w.drew.alloc (.cells (#[] ++ Builtin.zeroCells v.cells n ++ Builtin.zeroCells v.cells (grownCap w n 0 5 - n)) 5)) := fun ty => by
      have h := Lib.run_append_grow_zeros (P := Try.prog) w 22 3 ty 5 i v .i64 .i64 Try.underlying22 Try.underlying3 hi hz none 0 0 [] (by simp [Builtin.firstCells]) n hp (by omega) (by omega) (by omega) (Nat.le_trans (Nat.mul_le_mul hn hby) (by omega)) (by
        exact growslice_fits (by omega) (Nat.le_trans (Nat.mul_le_mul (by omega : 0 + n ≤ 2000000) hby) (by omega)))
      simpa using h
    have hG : n ≤ grownCap w n 0 5 := grownCap_ge w n 0 _
    have hGm : grownCap w n 0 5 ≤ maxLen := grownCap_le_maxLen w n 0 _ (by unfold maxLen; omega)
    have hzc : ∀ k, (Builtin.zeroCells v.cells k).size = k := fun k => by simp [Builtin.zeroCells, hvs]
    generalize grownCap w n 0 5 = G at *
    obtain ⟨xs, hxs⟩ : ∃ xs, xs = (#[] ++ Builtin.zeroCells v.cells n ++ Builtin.zeroCells v.cells (G - n) : Array Value) := ⟨_, rfl⟩
    rw [← hxs] at hrz
    have hxl : xs.size = G := by rw [hxs]; simp [hzc]; omega
    clear hxs hzc hi hz hvs hsz hby
    have HX := Lib.hid hxl
    clear hxl
    have hpi : (0 : Int) < n := by omega
    have hGi : n ≤ G := hG
    have hg0 : (0 : Int) ≤ G := by omega
    go_enter Try.func31, Try.ntmps31
    go_wp2_with (at_builtin; refine Lib.wpList_append_run _ rfl _ _ _ _ rfl _ _ rfl rfl _ _ (hrz _) ?_)
    all_goals
      go_ret
      exact ⟨_, G, rfl, fr_Grow_mem w _ n G xs rfl HX.out hGm O⟩
theorem eqNil_none (w : World) : (binOp .eql 22 (.slice none 0 0) (.slice none 0 0)).run Try.prog w = .ok (.bool true) w := by kernel_rfl
theorem eqNil_some (a : Addr) (n c : Nat) (w : World) : (binOp .eql 22 (.slice (some a) n c) (.slice none 0 0)).run Try.prog w = .ok (.bool false) w := by kernel_rfl
set_option maxRecDepth 100000 in
set_option maxHeartbeats 4000000 in
theorem fr_Clone (w : World) (A : Option Addr) (c : Nat) (l : List UInt8) (h : Rd w A l) (hl : l.length ≤ 2000000) (hA : A = none → c = 0) :
    Calls Try.prog 30 #[.slice A l.length c] w (fun e w' => ∃ A' c', e = .returned (.slice A' l.length c') ∧ Mem w [] w' [bytesA A' c' l]) := by
  have O : Mem w [] w [] := Mem.begin
  cases A with
  | none =>
    have hc := hA rfl
    subst hc
    have hnil : l = [] := by
      cases l with
      | nil => rfl
      | cons x l => obtain ⟨b, off, h1, _⟩ := h.ats 0 x rfl; simp at h1
    subst hnil
    simp only [List.length_nil]
    have hen := eqNil_none
    go_enter Try.func30, Try.ntmps30
    have cs := O.facts
    simp only [factsP, cellsP, roomP, foots_cons, foots_nil, foots_append, foot_pt, ptb, ptb_mapA, foot_mapA, factsP_mapA, foot_bun, List.append_nil, List.nil_append, List.cons_append, List.nodup_cons, List.nodup_nil, List.mem_cons, List.not_mem_nil, List.mem_singleton, List.forall_mem_cons, not_or, not_false_eq_true, and_true, true_and, or_false, false_or, forall_eq_or_imp, forall_eq, implies_true, Nat.zero_add, Nat.reduceAdd, and_assoc, ptb_listA, factsP_listA, Nat.mul_one] at cs
    go_wp2_with fail
    go_ret
    exact ⟨none, 0, rfl, O.listNil⟩
  | some a =>
    have H := Lib.hid h
    clear h hA
    have hen := eqNil_some a l.length c
    go_enter Try.func30, Try.ntmps30
    have cs := O.facts
    simp only [factsP, cellsP, roomP, foots_cons, foots_nil, foots_append, foot_pt, ptb, ptb_mapA, foot_mapA, factsP_mapA, foot_bun, List.append_nil, List.nil_append, List.cons_append, List.nodup_cons, List.nodup_nil, List.mem_cons, List.not_mem_nil, List.mem_singleton, List.forall_mem_cons, not_or, not_false_eq_true, and_true, true_and, or_false, false_or, forall_eq_or_imp, forall_eq, implies_true, Nat.zero_add, Nat.reduceAdd, and_assoc, ptb_listA, factsP_listA, Nat.mul_one] at cs
    go_wp2_with ((at_builtin; refine byteTy.wl_app (ptList (l := []) (fun _ => rfl) (O.alloc [] 5) (by simp)) rfl rfl rfl rfl l rfl rfl ((H.out.fr (O.alloc [] 5).fr).src) (by simp; omega) ?_; intro A1 c1 w4 O4))
    go_ret
    exact ⟨A1, c1, by simp, by simpa using O4.sub (List.Sublist.refl _)⟩
/-- a slice of bytes somewhere -/
structure Bs where
  A : Option Addr
  c : Nat
  l : List UInt8
def Bs.val (b : Bs) : Value := .slice b.A b.l.length b.c
def catBs (es : List Bs) : List UInt8 := es.flatMap (·.l)
theorem catBs_snoc (es : List Bs) (k : Nat) (b : Bs) (h : es[k]? = some b) : catBs (es.take (k + 1)) = catBs (es.take k) ++ b.l := by
  obtain ⟨hlt, rfl⟩ := List.getElem?_eq_some_iff.1 h
  unfold catBs
  rw [List.take_succ_eq_append_getElem hlt, List.flatMap_append]
  simp
theorem catBs_le (es : List Bs) (k : Nat) : (catBs (es.take k)).length ≤ (catBs es).length := by
  have e : catBs es = catBs (es.take k) ++ catBs (es.drop k) := by
    unfold catBs
    rw [← List.flatMap_append, List.take_append_drop]
  rw [e]
  simp
set_option maxRecDepth 100000 in
set_option maxHeartbeats 4000000 in
theorem fr_Concat (w : World) (g : Nat) (es : List Bs) (hg : g < w.heap.size) (hes : ∀ i b, es[i]? = some b → w.cell? ⟨g, i, none⟩ = some b.val ∧ Rd w b.A b.l) (hm : es.length ≤ 100) (hl : (catBs es).length ≤ 2000000) :
    Calls Try.prog 25 #[.slice (some ⟨g, 0, none⟩) es.length es.length] w (fun e w' => ∃ A c, e = .returned (.slice A (catBs es).length c) ∧ Mem w [] w' [bytesA A c (catBs es)]) := by
  have O : Mem w [] w [] := Mem.begin
  have HE := Lib.hid hes
  clear hes
  have V := Lib.hid (fun W (hW : Fr [] w W) i b (hi : es[i]? = some b) => And.intro (roomP_of (Nat.lt_of_lt_of_le hg hW.size)) ((hW.cell hg).trans (HE.out i b hi).1 : W.cell? ⟨g, i, none⟩ = some b.val))
  go_enter Try.func25, Try.ntmps25
  go_wp2_with fail
  go_loopw [3, 11] (fun s3 s11 wr => ∃ k : Nat, k ≤ es.length ∧ s11 = .int .i64 k ∧ s3 = .int .i64 (catBs (es.take k)).length ∧ Mem w [] wr []) (fun _ s11 _ => es.length - (intOf s11).toNat)
  case atStart => exact ⟨0, by omega, rfl, rfl, O⟩
  case round =>
    clear O
    obtain ⟨k, hk, rfl, rfl, O⟩ := hrel
    have hle := catBs_le es k
    by_cases hlt : k < es.length
    · obtain ⟨b, hb⟩ : ∃ b, es[k]? = some b := ⟨_, List.getElem?_eq_getElem hlt⟩
      have hsn := catBs_snoc es k b hb
      have hle2 := catBs_le es (k + 1)
      have V2 := Lib.hid (fun W hW => V.out W hW k b hb)
      obtain ⟨bA, bc, bl⟩ := b
      simp only [Bs.val] at V2 hsn
      rw [hsn, List.length_append] at hle2
      have HSN := Lib.hid (show (catBs (es.take (k + 1))).length = (catBs (es.take k)).length + bl.length by rw [hsn, List.length_append])
      clear hsn hb
      skip
      generalize (catBs (es.take k)).length = n0 at *
      have cs := O.facts
      simp only [factsP, cellsP, roomP, foots_cons, foots_nil, foots_append, foot_pt, ptb, ptb_mapA, foot_mapA, factsP_mapA, foot_bun, List.append_nil, List.nil_append, List.cons_append, List.nodup_cons, List.nodup_nil, List.mem_cons, List.not_mem_nil, List.mem_singleton, List.forall_mem_cons, not_or, not_false_eq_true, and_true, true_and, or_false, false_or, forall_eq_or_imp, forall_eq, implies_true, Nat.zero_add, Nat.reduceAdd, and_assoc, ptb_listA, factsP_listA, Nat.mul_one] at cs
      have v1 := V2.out _ O.fr
      simp only [roomP, and_assoc] at v1
      go_wp2_with fail
      go_roundw
      case rel => exact ⟨k + 1, by omega, by go_num, by rw [HSN.out]; go_num, O⟩
      case measure => simp [intOf]; omega
    · obtain rfl : k = es.length := by omega
      rw [List.take_length] at hle ⊢
      obtain ⟨tot, ht⟩ : ∃ n, n = (catBs es).length := ⟨_, rfl⟩
      rw [← ht] at hl hle ⊢
      have HT := Lib.hid ht
      clear ht
      skip
      have cs := O.facts
      simp only [factsP, cellsP, roomP, foots_cons, foots_nil, foots_append, foot_pt, ptb, ptb_mapA, foot_mapA, factsP_mapA, foot_bun, List.append_nil, List.nil_append, List.cons_append, List.nodup_cons, List.nodup_nil, List.mem_cons, List.not_mem_nil, List.mem_singleton, List.forall_mem_cons, not_or, not_false_eq_true, and_true, true_and, or_false, false_or, forall_eq_or_imp, forall_eq, implies_true, Nat.zero_add, Nat.reduceAdd, and_assoc, ptb_listA, factsP_listA, Nat.mul_one] at cs
      go_wp2_with fail
      first | apply Mem.atCall | apply Mem.atCode | apply Mem.atList
      case h => repeat' (first | (with_reducible exact O) | (with_reducible apply Mem.drew) | (with_reducible apply Mem.drewN) | (with_reducible apply Mem.ext) | (with_reducible apply Mem.alloc) | (with_reducible apply Mem.setCell) | (simp only [ptb, ptb_upd, foots_cons, List.mem_cons, World.size_alloc, size_ext, World.size_setCell, true_or, or_true, eq_self_iff_true]))
      case' k =>
        intro w1 O'
        (try clear O)
        have O := O'
        clear O'
        (first | simp only [sel, rst, List.cons_append, List.nil_append, World.size_alloc, size_ext, World.size_setCell, size_setMap, World.size_drew, size_drewN, upd, List.set_cons_zero, List.set_cons_succ, if_true, if_false, reduceIte, not_false_eq_true, ne_lt0, ne_lt1, ne_lt2, ne_lt3, ne_lt4, cs] at O | simp only [sel, rst, List.cons_append, List.nil_append, World.size_alloc, size_ext, World.size_setCell, size_setMap, World.size_drew, size_drewN, upd, List.set_cons_zero, List.set_cons_succ, if_true, if_false, reduceIte, not_false_eq_true, ne_lt0, ne_lt1, ne_lt2, ne_lt3, ne_lt4] at O | skip)
        (try clear cs)
        (try clear v1)
        (try clear v2)
        (try clear v3)
      refine (fr_Grow _ tot hl).mono ?_
      rintro e w2 ⟨A, c, rfl, o⟩
      replace O := O.callp [] o
      clear o
      simp only [put, List.cons_append, List.nil_append] at O
      have cs := O.facts
      simp only [factsP, cellsP, roomP, foots_cons, foots_nil, foots_append, foot_pt, ptb, ptb_mapA, foot_mapA, factsP_mapA, foot_bun, List.append_nil, List.nil_append, List.cons_append, List.nodup_cons, List.nodup_nil, List.mem_cons, List.not_mem_nil, List.mem_singleton, List.forall_mem_cons, not_or, not_false_eq_true, and_true, true_and, or_false, false_or, forall_eq_or_imp, forall_eq, implies_true, Nat.zero_add, Nat.reduceAdd, and_assoc, ptb_listA, factsP_listA, Nat.mul_one] at cs
      go_wp2_with fail
      go_loopw [6, 27] (fun s6 s27 wr => ∃ (k : Nat) (A : Option Addr) (c : Nat), k ≤ es.length ∧ s27 = .int .i64 k ∧ s6 = .slice A (catBs (es.take k)).length c ∧ Mem w [] wr [bytesA A c (catBs (es.take k))]) (fun _ s27 _ => es.length - (intOf s27).toNat)
      case atStart => exact ⟨0, A, c, by omega, rfl, rfl, O⟩
      case round =>
        clear O hle
        obtain ⟨k, A, c, hk, rfl, rfl, O⟩ := hrel
        have hle := catBs_le es k
        by_cases hlt : k < es.length
        · obtain ⟨b, hb⟩ : ∃ b, es[k]? = some b := ⟨_, List.getElem?_eq_getElem hlt⟩
          have hsn := catBs_snoc es k b hb
          have hle2 := catBs_le es (k + 1)
          have V2 := Lib.hid (fun W hW => V.out W hW k b hb)
          have R := Lib.hid (HE.out k b hb).2
          obtain ⟨bA, bc, bl⟩ := b
          simp only [Bs.val] at V2 hsn R
          rw [hsn, List.length_append, ← HT.out] at hle2
          rw [← HT.out] at hle
          have HSN := Lib.hid hsn
          clear hsn hb
          skip
          generalize catBs (es.take k) = acc at *
          have cs := O.facts
          simp only [factsP, cellsP, roomP, foots_cons, foots_nil, foots_append, foot_pt, ptb, ptb_mapA, foot_mapA, factsP_mapA, foot_bun, List.append_nil, List.nil_append, List.cons_append, List.nodup_cons, List.nodup_nil, List.mem_cons, List.not_mem_nil, List.mem_singleton, List.forall_mem_cons, not_or, not_false_eq_true, and_true, true_and, or_false, false_or, forall_eq_or_imp, forall_eq, implies_true, Nat.zero_add, Nat.reduceAdd, and_assoc, ptb_listA, factsP_listA, Nat.mul_one] at cs
          have v1 := V2.out _ O.fr
          simp only [roomP, and_assoc] at v1
          go_wp2_with ((at_builtin; refine byteTy.wl_app O rfl rfl rfl rfl bl rfl rfl ((R.out.fr O.fr).src) (by omega) ?_; intro A1 c1 w4 O4))
          go_roundw
          case rel =>
            refine ⟨k + 1, A1, c1, by omega, by go_num, by rw [HSN.out]; simp, ?_⟩
            rw [HSN.out]
            exact O4
          case measure => simp [intOf]; omega
        · obtain rfl : k = es.length := by omega
          rw [List.take_length] at O ⊢
          skip
          have cs := O.facts
          simp only [factsP, cellsP, roomP, foots_cons, foots_nil, foots_append, foot_pt, ptb, ptb_mapA, foot_mapA, factsP_mapA, foot_bun, List.append_nil, List.nil_append, List.cons_append, List.nodup_cons, List.nodup_nil, List.mem_cons, List.not_mem_nil, List.mem_singleton, List.forall_mem_cons, not_or, not_false_eq_true, and_true, true_and, or_false, false_or, forall_eq_or_imp, forall_eq, implies_true, Nat.zero_add, Nat.reduceAdd, and_assoc, ptb_listA, factsP_listA, Nat.mul_one] at cs
          go_wp2_with fail
          go_ret
          refine ⟨A, c, rfl, O⟩
end Go.Proofs.Ytomcahmgmmbmmaa
