/- WALKS: the document's reader of frames (tontineref03): it comes to the same plain functions. -/
import Derived.Test.YtomcahmgmmbmmaaOwn03
set_option linter.unusedVariables false
set_option linter.unusedSimpArgs false
namespace Go.Proofs.Ytomcahmgmmbmmaa
open Go.RowKit Go.Tk
def rrL (pb : Nat) (A : Option Addr) (c : Nat) (l : List UInt8) : List Asn := [.pt pb [.slice A l.length c] 45, bytesA A c l]
theorem unwrap_take (l : List UInt8) (h : (faultP l).2 = 0) (h2 : (faultP l).1 ≠ 0) (hl : (faultP l).1 ≤ l.length) : unwrapP (l.take (faultP l).1) = bodyP (l.take (faultP l).1) := by
  have hf : ¬ ((1 ≤ l.length ∧ l.getD 0 0 ≠ 84) ∨ (2 ≤ l.length ∧ l.getD 1 0 ≠ 78)) ∧ ¬ l.length < 6 ∧ ¬ 65536 < num4 (l.drop 2) ∧ (faultP l).1 = num4 (l.drop 2) + 10 := by
    unfold faultP at h h2 ⊢
    by_cases c1 : (1 ≤ l.length ∧ l.getD 0 0 ≠ 84) ∨ (2 ≤ l.length ∧ l.getD 1 0 ≠ 78)
    · rw [if_pos c1] at h; simp at h
    · rw [if_neg c1] at h h2 ⊢
      by_cases c2 : l.length < 6
      · rw [if_pos c2] at h2; simp at h2
      · rw [if_neg c2] at h h2 ⊢
        by_cases c3 : 65536 < num4 (l.drop 2)
        · rw [if_pos c3] at h; simp at h
        · rw [if_neg c3]
          exact ⟨c1, c2, c3, rfl⟩
  obtain ⟨c1, c2, c3, c4⟩ := hf
  obtain ⟨s, hs⟩ : ∃ s, s = (faultP l).1 := ⟨_, rfl⟩
  rw [← hs] at h2 hl c4 ⊢
  have ht : (l.take s).length = s := by rw [List.length_take]; omega
  have hg : ∀ i, i < s → (l.take s)[i]? = l[i]? := fun i hi => by rw [List.getElem?_take, if_pos hi]
  have hn : num4 ((l.take s).drop 2) = num4 (l.drop 2) := num4_congr (fun i hi => by rw [List.getElem?_drop, List.getElem?_drop]; exact hg _ (by omega))
  have hff : faultP (l.take s) = (s, 0) := by
    unfold faultP
    rw [ht, getD_eq _ l 0 (hg 0 (by omega)), getD_eq _ l 1 (hg 1 (by omega)), hn]
    rw [if_neg, if_neg (by omega), if_neg c3, c4]
    rintro (⟨a, b⟩ | ⟨a, b⟩)
    · exact c1 (.inl ⟨by omega, b⟩)
    · exact c1 (.inr ⟨by omega, b⟩)
  unfold unwrapP
  rw [hff, ht, if_neg (by omega)]
  simp
set_option maxRecDepth 100000 in
set_option maxHeartbeats 8000000 in
theorem rr_Feed_no (w : World) (pb : Nat) (A : Option Addr) (c : Nat) (l : List UInt8) (B : Option Addr) (d : Nat) (n : Nat) (h : Pre w (rrL pb A c l)) (hl : l.length ≤ 131072) (hn : 131072 < l.length + n) (hn2 : n ≤ 2000000) :
    Calls Try.prog 22 #[.pointer (some ⟨pb, 0, none⟩), .slice B n d] w (fun e w' => e = .returned (.bool false) ∧ Mem w [] w' []) := by
  have O : Mem w [] w [] := Mem.begin
  have H := Lib.hid h
  clear h
  have hc : (131072 : Int) < n ∨ (¬ (131072 : Int) < n ∧ (131072 : Int) < (l.length : Int) + n) := by omega
  have w1' : IntKind.i64.wrap ((l.length : Int) + n) = (l.length : Int) + n := by simp [IntKind.wrap, IntKind.signed, IntKind.bits]; omega
  have HC := Lib.hid hc
  clear hc hl hn hn2
  skip
  rcases HC.out with h1 | ⟨h1, h2⟩
  all_goals
    clear HC
    go_enter Try.func22, Try.ntmps22
    have cs := O.facts
    simp only [factsP, cellsP, roomP, foots_cons, foots_nil, foots_append, foot_pt, ptb, ptb_mapA, foot_mapA, factsP_mapA, foot_bun, List.append_nil, List.nil_append, List.cons_append, List.nodup_cons, List.nodup_nil, List.mem_cons, List.not_mem_nil, List.mem_singleton, List.forall_mem_cons, not_or, not_false_eq_true, and_true, true_and, or_false, false_or, forall_eq_or_imp, forall_eq, implies_true, Nat.zero_add, Nat.reduceAdd, and_assoc, ptb_listA, factsP_listA, Nat.mul_one, rrL, byteCells] at cs
    have v1 := (H.out.view O.fr).facts
    try simp only [cellsQ, roomP, and_assoc, and_true, true_and, Nat.add_zero, Nat.zero_add, Nat.reduceAdd, factsP, cellsP, roomP, foots_cons, foots_nil, foots_append, foot_pt, ptb, ptb_mapA, foot_mapA, factsP_mapA, foot_bun, List.append_nil, List.nil_append, List.cons_append, List.nodup_cons, List.nodup_nil, List.mem_cons, List.not_mem_nil, List.mem_singleton, List.forall_mem_cons, not_or, not_false_eq_true, and_true, true_and, or_false, false_or, forall_eq_or_imp, forall_eq, implies_true, Nat.zero_add, Nat.reduceAdd, and_assoc, ptb_listA, factsP_listA, Nat.mul_one, rrL, byteCells] at v1
    go_wp2_with fail
    go_ret
    exact ⟨rfl, O⟩
set_option maxRecDepth 100000 in
set_option maxHeartbeats 8000000 in
theorem rr_Feed (w : World) (pb : Nat) (A : Option Addr) (c : Nat) (l : List UInt8) (B : Option Addr) (d : Nat) (m : List UInt8) (h : Pre w (rrL pb A c l)) (hr : Rd w B m) (hl : l.length + m.length ≤ 131072) :
    Calls Try.prog 22 #[.pointer (some ⟨pb, 0, none⟩), .slice B m.length d] w (fun e w' => e = .returned (.bool true) ∧ ∃ A' c', Mem w (foots (rrL pb A c l)) w' (rrL pb A' c' (l ++ m))) := by
  obtain ⟨fp, hfp⟩ : ∃ F, F = foots (rrL pb A c l) := ⟨_, rfl⟩
  have O : Mem w fp w (rrL pb A c l) := by rw [hfp]; exact h
  rw [← hfp]
  clear hfp h
  have h1 : ¬ ((131072 : Int) < m.length) := by omega
  have h2 : ¬ ((131072 : Int) < (l.length : Int) + m.length) := by omega
  have w1' : IntKind.i64.wrap ((l.length : Int) + m.length) = (l.length : Int) + m.length := by simp [IntKind.wrap, IntKind.signed, IntKind.bits]; omega
  have HL := Lib.hid hl
  have HR := Lib.hid hr
  clear hl hr
  simp only [rrL] at O
  skip
  go_enter Try.func22, Try.ntmps22
  have cs := O.facts
  simp only [factsP, cellsP, roomP, foots_cons, foots_nil, foots_append, foot_pt, ptb, ptb_mapA, foot_mapA, factsP_mapA, foot_bun, List.append_nil, List.nil_append, List.cons_append, List.nodup_cons, List.nodup_nil, List.mem_cons, List.not_mem_nil, List.mem_singleton, List.forall_mem_cons, not_or, not_false_eq_true, and_true, true_and, or_false, false_or, forall_eq_or_imp, forall_eq, implies_true, Nat.zero_add, Nat.reduceAdd, and_assoc, ptb_listA, factsP_listA, Nat.mul_one, rrL, byteCells] at cs
  go_wp2_with ((at_builtin; refine byteTy.wl_app (O.front1 [false, true] rfl) rfl rfl rfl rfl m rfl rfl HR.out.src (by have := HL.out; omega) ?_; intro A1 c1 w4 O4; have cs1 := O4.facts; simp only [rst, factsP, cellsP, roomP, foots_cons, foots_nil, foots_append, foot_pt, ptb, ptb_mapA, foot_mapA, factsP_mapA, foot_bun, List.append_nil, List.nil_append, List.cons_append, List.nodup_cons, List.nodup_nil, List.mem_cons, List.not_mem_nil, List.mem_singleton, List.forall_mem_cons, not_or, not_false_eq_true, and_true, true_and, or_false, false_or, forall_eq_or_imp, forall_eq, implies_true, Nat.zero_add, Nat.reduceAdd, and_assoc, ptb_listA, factsP_listA, Nat.mul_one, rrL, byteCells] at cs1))
  clear O cs
  have cs := cs1
  clear cs1
  replace O4 := O4.unfront
  simp only [put, List.cons_append, List.nil_append] at O4
  have O := O4
  clear O4
  go_ret
  refine ⟨rfl, A1, c1, ?_⟩
  simp only [rrL, List.length_append]
  apply Mem.to [true, true]
  · repeat' (first | (with_reducible exact O) | (with_reducible apply Mem.drew) | (with_reducible apply Mem.drewN) | (with_reducible apply Mem.ext) | (with_reducible apply Mem.alloc) | (with_reducible apply Mem.setCell) | (simp only [ptb, ptb_upd, foots_cons, List.mem_cons, World.size_alloc, size_ext, World.size_setCell, true_or, or_true, eq_self_iff_true]))
  · first | with_reducible rfl | (simp only [sel, rst, List.cons_append, List.nil_append, World.size_alloc, size_ext, World.size_setCell, size_setMap, World.size_drew, size_drewN, upd, List.set_cons_zero, List.set_cons_succ, if_true, if_false, reduceIte, not_false_eq_true, ne_lt0, ne_lt1, ne_lt2, ne_lt3, ne_lt4, cs]; done) | (simp only [sel, rst, List.cons_append, List.nil_append, World.size_alloc, size_ext, World.size_setCell, size_setMap, World.size_drew, size_drewN, upd, List.set_cons_zero, List.set_cons_succ, if_true, if_false, reduceIte, not_false_eq_true, ne_lt0, ne_lt1, ne_lt2, ne_lt3, ne_lt4]; done) | (simp only [sel, rst, List.cons_append, List.nil_append, World.size_alloc, size_ext, World.size_setCell, size_setMap, World.size_drew, size_drewN, upd, List.set_cons_zero, List.set_cons_succ, if_true, if_false, reduceIte, not_false_eq_true, ne_lt0, ne_lt1, ne_lt2, ne_lt3, ne_lt4, cs]; rfl) | (simp only [sel, rst, List.cons_append, List.nil_append, World.size_alloc, size_ext, World.size_setCell, size_setMap, World.size_drew, size_drewN, upd, List.set_cons_zero, List.set_cons_succ, if_true, if_false, reduceIte, not_false_eq_true, ne_lt0, ne_lt1, ne_lt2, ne_lt3, ne_lt4]; rfl)
set_option maxRecDepth 100000 in
set_option maxHeartbeats 8000000 in
theorem rr_Next (w : World) (pb : Nat) (A : Option Addr) (c : Nat) (l : List UInt8) (h : Pre w (rrL pb A c l)) (hl : l.length ≤ 131072) :
    Calls Try.prog 23 #[.pointer (some ⟨pb, 0, none⟩)] w (fun e w' => ∃ B d A' c', e = .returned (.tuple #[.slice B (nextP l).1.length d, .bool (nextP l).2.1, .int .i64 (nextP l).2.2.1]) ∧ Mem w (foots (rrL pb A c l)) w' (bytesA B d (nextP l).1 :: rrL pb A' c' (nextP l).2.2.2)) := by
  obtain ⟨fp, hfp⟩ : ∃ F, F = foots (rrL pb A c l) := ⟨_, rfl⟩
  have O : Mem w fp w (rrL pb A c l) := by rw [hfp]; exact h
  rw [← hfp]
  clear hfp h
  obtain ⟨hc, hA0⟩ := listA_cap (O.hold (bytesA A c l) (by simp [rrL]))
  obtain ⟨v, hv⟩ : ∃ v, v = nextP l := ⟨_, rfl⟩
  rw [← hv]
  have HV := Lib.hid hv
  clear hv
  simp only [rrL] at O
  rcases Nat.eq_zero_or_pos l.length with hz | hp
  · have hln : l = [] := List.eq_nil_of_length_eq_zero hz
    have hv := HV.out
    have hnn : nextP ([] : List UInt8) = ([], false, 0, []) := by decide +kernel
    rw [hln, hnn] at hv
    subst hv hln
    simp only [List.length_nil] at O
    clear HV hz
    skip
    go_enter Try.func23, Try.ntmps23
    have cs := O.facts
    simp only [factsP, cellsP, roomP, foots_cons, foots_nil, foots_append, foot_pt, ptb, ptb_mapA, foot_mapA, factsP_mapA, foot_bun, List.append_nil, List.nil_append, List.cons_append, List.nodup_cons, List.nodup_nil, List.mem_cons, List.not_mem_nil, List.mem_singleton, List.forall_mem_cons, not_or, not_false_eq_true, and_true, true_and, or_false, false_or, forall_eq_or_imp, forall_eq, implies_true, Nat.zero_add, Nat.reduceAdd, and_assoc, ptb_listA, factsP_listA, Nat.mul_one, rrL, byteCells] at cs
    go_wp2_with fail
    refine bodyPost_ret (v := .tuple #[.slice none 0 0, .bool false, .int .i64 0]) (by simp [results, Try.results23, go_sem]) rfl ?_
    exact ⟨none, 0, A, c, rfl, Mem.listNil O⟩
  · obtain ⟨g, rfl, -⟩ := listA_get (cs := byteCells) (fun _ => rfl) (O.hold (bytesA A c l) (by simp)) (k := 0) (a := l[0]) (List.getElem?_eq_getElem hp)
    obtain ⟨x0, e0⟩ : ∃ x, l[0]? = some x := ⟨_, List.getElem?_eq_getElem hp⟩
    have hd0 : l.getD 0 0 = x0 := by rw [List.getD_eq_getElem?_getD, e0]; rfl
    have E0 := Lib.hid e0
    clear e0
    have i0 : (0 : Int) < l.length := by omega
    by_cases m0 : x0 = 84
    · subst m0
      rcases Nat.lt_or_ge l.length 2 with h2 | h2
      · have hv := HV.out
        have hf : faultP l = (0, 0) := by
          unfold faultP
          rw [hd0, if_neg (by rintro (⟨_, h⟩ | ⟨h, _⟩); exact h rfl; omega), if_pos (by omega)]
        unfold nextP at hv
        rw [hf] at hv
        simp at hv
        subst hv
        have i1 : ¬ ((1 : Int) < l.length) := by omega
        have i6 : (l.length : Int) < 6 := by omega
        clear HV hf hd0 h2 hp hc hl hA0
        skip
        go_enter Try.func23, Try.ntmps23
        have cs := O.facts
        simp only [factsP, cellsP, roomP, foots_cons, foots_nil, foots_append, foot_pt, ptb, ptb_mapA, foot_mapA, factsP_mapA, foot_bun, List.append_nil, List.nil_append, List.cons_append, List.nodup_cons, List.nodup_nil, List.mem_cons, List.not_mem_nil, List.mem_singleton, List.forall_mem_cons, not_or, not_false_eq_true, and_true, true_and, or_false, false_or, forall_eq_or_imp, forall_eq, implies_true, Nat.zero_add, Nat.reduceAdd, and_assoc, ptb_listA, factsP_listA, Nat.mul_one, rrL, byteCells] at cs
        have v1 := (listA_at (cs := byteCells) (fun _ => rfl) (O.hold (bytesA (some ⟨g, 0, none⟩) c l) (by simp)) E0.out)
        try simp only [cellsQ, roomP, and_assoc, and_true, true_and, Nat.add_zero, Nat.zero_add, Nat.reduceAdd, factsP, cellsP, roomP, foots_cons, foots_nil, foots_append, foot_pt, ptb, ptb_mapA, foot_mapA, factsP_mapA, foot_bun, List.append_nil, List.nil_append, List.cons_append, List.nodup_cons, List.nodup_nil, List.mem_cons, List.not_mem_nil, List.mem_singleton, List.forall_mem_cons, not_or, not_false_eq_true, and_true, true_and, or_false, false_or, forall_eq_or_imp, forall_eq, implies_true, Nat.zero_add, Nat.reduceAdd, and_assoc, ptb_listA, factsP_listA, Nat.mul_one, rrL, byteCells] at v1
        go_wp2_with fail
        refine bodyPost_ret (v := .tuple #[.slice none 0 0, .bool false, .int .i64 0]) (by simp [results, Try.results23, go_sem]) rfl ?_
        first | exact ⟨none, 0, some ⟨g, 0, none⟩, c, rfl, Mem.listNil O⟩ | exact ⟨none, 0, rfl, some ⟨g, 0, none⟩, c, Mem.listNil O⟩
      · obtain ⟨x1, e1⟩ : ∃ x, l[1]? = some x := ⟨_, List.getElem?_eq_getElem h2⟩
        have hd1 : l.getD 1 0 = x1 := by rw [List.getD_eq_getElem?_getD, e1]; rfl
        have E1 := Lib.hid e1
        clear e1
        have i1 : (1 : Int) < l.length := by omega
        by_cases m1 : x1 = 78
        · subst m1
          rcases Nat.lt_or_ge l.length 6 with h6 | h6
          · have hv := HV.out
            have hf : faultP l = (0, 0) := by
              unfold faultP
              rw [hd0, hd1, if_neg (by rintro (⟨_, h⟩ | ⟨_, h⟩) <;> exact h rfl), if_pos h6]
            unfold nextP at hv
            rw [hf] at hv
            simp at hv
            subst hv
            have i6 : (l.length : Int) < 6 := by omega
            clear HV hf hd0 hd1 h2 hp hc hl hA0 h6
            skip
            go_enter Try.func23, Try.ntmps23
            have cs := O.facts
            simp only [factsP, cellsP, roomP, foots_cons, foots_nil, foots_append, foot_pt, ptb, ptb_mapA, foot_mapA, factsP_mapA, foot_bun, List.append_nil, List.nil_append, List.cons_append, List.nodup_cons, List.nodup_nil, List.mem_cons, List.not_mem_nil, List.mem_singleton, List.forall_mem_cons, not_or, not_false_eq_true, and_true, true_and, or_false, false_or, forall_eq_or_imp, forall_eq, implies_true, Nat.zero_add, Nat.reduceAdd, and_assoc, ptb_listA, factsP_listA, Nat.mul_one, rrL, byteCells] at cs
            have v1 := (listA_at (cs := byteCells) (fun _ => rfl) (O.hold (bytesA (some ⟨g, 0, none⟩) c l) (by simp)) E0.out)
            try simp only [cellsQ, roomP, and_assoc, and_true, true_and, Nat.add_zero, Nat.zero_add, Nat.reduceAdd, factsP, cellsP, roomP, foots_cons, foots_nil, foots_append, foot_pt, ptb, ptb_mapA, foot_mapA, factsP_mapA, foot_bun, List.append_nil, List.nil_append, List.cons_append, List.nodup_cons, List.nodup_nil, List.mem_cons, List.not_mem_nil, List.mem_singleton, List.forall_mem_cons, not_or, not_false_eq_true, and_true, true_and, or_false, false_or, forall_eq_or_imp, forall_eq, implies_true, Nat.zero_add, Nat.reduceAdd, and_assoc, ptb_listA, factsP_listA, Nat.mul_one, rrL, byteCells] at v1
            have v2 := (listA_at (cs := byteCells) (fun _ => rfl) (O.hold (bytesA (some ⟨g, 0, none⟩) c l) (by simp)) E1.out)
            try simp only [cellsQ, roomP, and_assoc, and_true, true_and, Nat.add_zero, Nat.zero_add, Nat.reduceAdd, factsP, cellsP, roomP, foots_cons, foots_nil, foots_append, foot_pt, ptb, ptb_mapA, foot_mapA, factsP_mapA, foot_bun, List.append_nil, List.nil_append, List.cons_append, List.nodup_cons, List.nodup_nil, List.mem_cons, List.not_mem_nil, List.mem_singleton, List.forall_mem_cons, not_or, not_false_eq_true, and_true, true_and, or_false, false_or, forall_eq_or_imp, forall_eq, implies_true, Nat.zero_add, Nat.reduceAdd, and_assoc, ptb_listA, factsP_listA, Nat.mul_one, rrL, byteCells] at v2
            go_wp2_with fail
            refine bodyPost_ret (v := .tuple #[.slice none 0 0, .bool false, .int .i64 0]) (by simp [results, Try.results23, go_sem]) rfl ?_
            first | exact ⟨none, 0, some ⟨g, 0, none⟩, c, rfl, Mem.listNil O⟩ | exact ⟨none, 0, rfl, some ⟨g, 0, none⟩, c, Mem.listNil O⟩
          · have i6 : ¬ ((l.length : Int) < 6) := by omega
            have i66 : (6 : Int) ≤ l.length := by omega
            have c6 : (6 : Int) ≤ c := by omega
            have nc2 : ¬ (c = 2) := by omega
            have lt26 : (2 : Int) ≤ 6 := by omega
            have n26 : 4 = ((l.drop 2).take 4).length := by simp; omega
            have hn1 : num4 ((l.drop 2).take 4) = num4 (l.drop 2) := num4_congr (fun i hi => by rw [List.getElem?_take, if_pos hi])
            have S0 := fun W (hR : Rd W (some ⟨g, 0, none⟩) l) => r_number W (some ⟨g, 0 + 2, none⟩) (c - 2) ((l.drop 2).take 4) ((hR.drop 2).take 4) (by omega)
            rw [← n26, hn1] at S0
            simp only [Nat.zero_add] at S0
            have hfa : faultP l = if 65536 < num4 (l.drop 2) then (0, 31) else (num4 (l.drop 2) + 10, 0) := by
              unfold faultP
              rw [hd0, hd1, if_neg (by rintro (⟨_, h⟩ | ⟨_, h⟩) <;> exact h rfl), if_neg (by omega)]
            have hnl := num4_lt (l.drop 2)
            obtain ⟨N, hN⟩ : ∃ N : Int, N = (num4 (l.drop 2) : Int) := ⟨_, rfl⟩
            rw [← hN] at S0
            have H0 := Lib.hid S0
            have hN0 : 0 ≤ N := by omega
            have hN1 : N < 4294967296 := by omega
            have HN := Lib.hid hN
            have HFA := Lib.hid hfa
            have HLL := Lib.hid hl
            have HCC := Lib.hid hc
            clear S0 hfa hnl hN hd0 hd1 hn1 n26 hl hc hA0 hp h2 h6
            skip
            go_enter Try.func23, Try.ntmps23
            have cs := O.facts
            simp only [factsP, cellsP, roomP, foots_cons, foots_nil, foots_append, foot_pt, ptb, ptb_mapA, foot_mapA, factsP_mapA, foot_bun, List.append_nil, List.nil_append, List.cons_append, List.nodup_cons, List.nodup_nil, List.mem_cons, List.not_mem_nil, List.mem_singleton, List.forall_mem_cons, not_or, not_false_eq_true, and_true, true_and, or_false, false_or, forall_eq_or_imp, forall_eq, implies_true, Nat.zero_add, Nat.reduceAdd, and_assoc, ptb_listA, factsP_listA, Nat.mul_one, rrL, byteCells] at cs
            have v1 := (listA_at (cs := byteCells) (fun _ => rfl) (O.hold (bytesA (some ⟨g, 0, none⟩) c l) (by simp)) E0.out)
            try simp only [cellsQ, roomP, and_assoc, and_true, true_and, Nat.add_zero, Nat.zero_add, Nat.reduceAdd, factsP, cellsP, roomP, foots_cons, foots_nil, foots_append, foot_pt, ptb, ptb_mapA, foot_mapA, factsP_mapA, foot_bun, List.append_nil, List.nil_append, List.cons_append, List.nodup_cons, List.nodup_nil, List.mem_cons, List.not_mem_nil, List.mem_singleton, List.forall_mem_cons, not_or, not_false_eq_true, and_true, true_and, or_false, false_or, forall_eq_or_imp, forall_eq, implies_true, Nat.zero_add, Nat.reduceAdd, and_assoc, ptb_listA, factsP_listA, Nat.mul_one, rrL, byteCells] at v1
            have v2 := (listA_at (cs := byteCells) (fun _ => rfl) (O.hold (bytesA (some ⟨g, 0, none⟩) c l) (by simp)) E1.out)
            try simp only [cellsQ, roomP, and_assoc, and_true, true_and, Nat.add_zero, Nat.zero_add, Nat.reduceAdd, factsP, cellsP, roomP, foots_cons, foots_nil, foots_append, foot_pt, ptb, ptb_mapA, foot_mapA, factsP_mapA, foot_bun, List.append_nil, List.nil_append, List.cons_append, List.nodup_cons, List.nodup_nil, List.mem_cons, List.not_mem_nil, List.mem_singleton, List.forall_mem_cons, not_or, not_false_eq_true, and_true, true_and, or_false, false_or, forall_eq_or_imp, forall_eq, implies_true, Nat.zero_add, Nat.reduceAdd, and_assoc, ptb_listA, factsP_listA, Nat.mul_one, rrL, byteCells] at v2
            go_wp2_with fail
            first | apply Mem.atCall | apply Mem.atCode | apply Mem.atList
            case h => repeat' (first | (with_reducible exact O) | (with_reducible apply Mem.drew) | (with_reducible apply Mem.drewN) | (with_reducible apply Mem.ext) | (with_reducible apply Mem.alloc) | (with_reducible apply Mem.setCell) | (simp only [ptb, ptb_upd, foots_cons, List.mem_cons, World.size_alloc, size_ext, World.size_setCell, true_or, or_true, eq_self_iff_true]))
            case' k =>
              intro w1 O'
              (try clear O)
              have O := O'
              clear O'
              (first | simp only [sel, rst, List.cons_append, List.nil_append, World.size_alloc, size_ext, World.size_setCell, size_setMap, World.size_drew, size_drewN, upd, List.set_cons_zero, List.set_cons_succ, if_true, if_false, reduceIte, not_false_eq_true, ne_lt0, ne_lt1, ne_lt2, ne_lt3, ne_lt4, cs] at O | simp only [sel, rst, List.cons_append, List.nil_append, World.size_alloc, size_ext, World.size_setCell, size_setMap, World.size_drew, size_drewN, upd, List.set_cons_zero, List.set_cons_succ, if_true, if_false, reduceIte, not_false_eq_true, ne_lt0, ne_lt1, ne_lt2, ne_lt3, ne_lt4] at O | skip)
              (try clear cs)
              (try clear v1)
              (try clear v2)
              (try clear v3)
            refine (H0.out _ (Mem.rd (c := c) O (by simp))).mono ?_
            rintro e w2 ⟨rfl, o⟩
            replace O := O.callp [] o
            clear o
            simp only [put, List.cons_append, List.nil_append] at O
            clear H0
            skip
            by_cases hbig : 65536 < N
            · have hv := HV.out
              have hf : faultP l = (0, 31) := by rw [HFA.out, if_pos (by have := HN.out; omega)]
              unfold nextP at hv
              rw [hf] at hv
              simp at hv
              subst hv
              clear hf
              have cs := O.facts
              simp only [factsP, cellsP, roomP, foots_cons, foots_nil, foots_append, foot_pt, ptb, ptb_mapA, foot_mapA, factsP_mapA, foot_bun, List.append_nil, List.nil_append, List.cons_append, List.nodup_cons, List.nodup_nil, List.mem_cons, List.not_mem_nil, List.mem_singleton, List.forall_mem_cons, not_or, not_false_eq_true, and_true, true_and, or_false, false_or, forall_eq_or_imp, forall_eq, implies_true, Nat.zero_add, Nat.reduceAdd, and_assoc, ptb_listA, factsP_listA, Nat.mul_one, rrL, byteCells] at cs
              go_wp2_with fail
              refine bodyPost_ret (v := .tuple #[.slice none 0 0, .bool false, .int .i64 31]) (by simp [results, Try.results23, go_sem]) rfl ?_
              first | exact ⟨none, 0, some ⟨g, 0, none⟩, c, rfl, Mem.listNil O⟩ | exact ⟨none, 0, rfl, some ⟨g, 0, none⟩, c, Mem.listNil O⟩
            · have hf : faultP l = (num4 (l.drop 2) + 10, 0) := by rw [HFA.out, if_neg (by have := HN.out; omega)]
              have hw1 : IntKind.i64.wrap N = N := by simp [IntKind.wrap, IntKind.signed, IntKind.bits]; omega
              have hw2 : IntKind.i64.wrap (N + 10) = N + 10 := by simp [IntKind.wrap, IntKind.signed, IntKind.bits]; omega
              have hbig2 : N ≤ 65536 := by omega
              clear hbig
              have hv := HV.out
              unfold nextP at hv
              rw [hf] at hv
              simp only [ne_eq, not_true_eq_false, if_false] at hv
              have HV2 := Lib.hid hv
              have hfs : (faultP l).1 = num4 (l.drop 2) + 10 := by rw [hf]
              have UT : l.length < num4 (l.drop 2) + 10 ∨ unwrapP (l.take (num4 (l.drop 2) + 10)) = bodyP (l.take (num4 (l.drop 2) + 10)) := by
                rcases Nat.lt_or_ge l.length (num4 (l.drop 2) + 10) with h | h
                · exact .inl h
                · exact .inr (by have := unwrap_take l (by rw [hf]) (by rw [hfs]; omega) (by rw [hfs]; exact h); rwa [hfs] at this)
              obtain ⟨q, hq⟩ : ∃ q, q = num4 (l.drop 2) + 10 := ⟨_, rfl⟩
              rw [← hq] at UT HV2
              have hqN : (q : Int) = N + 10 := by have := HN.out; omega
              have hq10 : 10 ≤ q := by omega
              have HQ := Lib.hid hq
              clear hf HV HFA hfs hq hv
              by_cases hs : l.length < q
              · have hv := HV2.out
                rw [if_pos (.inr hs)] at hv
                subst hv
                have i7 : (l.length : Int) < N + 10 := by omega
                clear UT hs HV2
                have cs := O.facts
                simp only [factsP, cellsP, roomP, foots_cons, foots_nil, foots_append, foot_pt, ptb, ptb_mapA, foot_mapA, factsP_mapA, foot_bun, List.append_nil, List.nil_append, List.cons_append, List.nodup_cons, List.nodup_nil, List.mem_cons, List.not_mem_nil, List.mem_singleton, List.forall_mem_cons, not_or, not_false_eq_true, and_true, true_and, or_false, false_or, forall_eq_or_imp, forall_eq, implies_true, Nat.zero_add, Nat.reduceAdd, and_assoc, ptb_listA, factsP_listA, Nat.mul_one, rrL, byteCells] at cs
                go_wp2_with fail
                refine bodyPost_ret (v := .tuple #[.slice none 0 0, .bool false, .int .i64 0]) (by simp [results, Try.results23, go_sem]) rfl ?_
                first | exact ⟨none, 0, some ⟨g, 0, none⟩, c, rfl, Mem.listNil O⟩ | exact ⟨none, 0, rfl, some ⟨g, 0, none⟩, c, Mem.listNil O⟩
              · have hv := HV2.out
                rw [if_neg (by omega)] at hv
                have HV3 := Lib.hid hv
                have hu := UT.resolve_left hs
                clear UT HV2 hv
                have cs := O.facts
                simp only [factsP, cellsP, roomP, foots_cons, foots_nil, foots_append, foot_pt, ptb, ptb_mapA, foot_mapA, factsP_mapA, foot_bun, List.append_nil, List.nil_append, List.cons_append, List.nodup_cons, List.nodup_nil, List.mem_cons, List.not_mem_nil, List.mem_singleton, List.forall_mem_cons, not_or, not_false_eq_true, and_true, true_and, or_false, false_or, forall_eq_or_imp, forall_eq, implies_true, Nat.zero_add, Nat.reduceAdd, and_assoc, ptb_listA, factsP_listA, Nat.mul_one, rrL, byteCells] at cs
                go_upto_region 9 with fail
                have w1' := hw1
                obtain rfl : N = (q : Int) - 10 := by omega
                clear hbig2 w1' hN1 hqN
                have e10 : (q : Int) - 10 + 10 = q := by omega
                rw [e10] at hw2
                have hql : q ≤ l.length := by omega
                have htl : (l.take q).length = q := by rw [List.length_take]; omega
                have HU := fun W (hR : Rd W (some ⟨g, 0, none⟩) l) => r_Unwrap W (some ⟨g, 0, none⟩) c (l.take q) (hR.take q) (by have := HCC.out; omega) (by have := HLL.out; omega)
                rw [htl, hu] at HU
                have H1 := Lib.hid HU
                have g3 : ¬ ((l.length : Int) < q) := by omega
                have g7 : ¬ (l.length < q) := hs
                have g8 : decide ((l.length : Int) < q) = false := by simp; omega
                have g9 : decide (l.length < q) = false := by simp; omega
                have g4 : (q : Int) ≤ c := by have := HCC.out; omega
                have g5 : (q : Int) ≤ l.length := by omega
                clear HU htl hu hs
                generalize bodyP (l.take q) = bd at *
                obtain ⟨bo, be⟩ := bd
                simp only at H1 HV3
                have cs := O.facts
                simp only [factsP, cellsP, roomP, foots_cons, foots_nil, foots_append, foot_pt, ptb, ptb_mapA, foot_mapA, factsP_mapA, foot_bun, List.append_nil, List.nil_append, List.cons_append, List.nodup_cons, List.nodup_nil, List.mem_cons, List.not_mem_nil, List.mem_singleton, List.forall_mem_cons, not_or, not_false_eq_true, and_true, true_and, or_false, false_or, forall_eq_or_imp, forall_eq, implies_true, Nat.zero_add, Nat.reduceAdd, and_assoc, ptb_listA, factsP_listA, Nat.mul_one, rrL, byteCells] at cs
                go_wp2_with fail
                first | apply Mem.atCall | apply Mem.atCode | apply Mem.atList
                case h => repeat' (first | (with_reducible exact O) | (with_reducible apply Mem.drew) | (with_reducible apply Mem.drewN) | (with_reducible apply Mem.ext) | (with_reducible apply Mem.alloc) | (with_reducible apply Mem.setCell) | (simp only [ptb, ptb_upd, foots_cons, List.mem_cons, World.size_alloc, size_ext, World.size_setCell, true_or, or_true, eq_self_iff_true]))
                case' k =>
                  intro w3 O'
                  (try clear O)
                  have O := O'
                  clear O'
                  (first | simp only [sel, rst, List.cons_append, List.nil_append, World.size_alloc, size_ext, World.size_setCell, size_setMap, World.size_drew, size_drewN, upd, List.set_cons_zero, List.set_cons_succ, if_true, if_false, reduceIte, not_false_eq_true, ne_lt0, ne_lt1, ne_lt2, ne_lt3, ne_lt4, cs] at O | simp only [sel, rst, List.cons_append, List.nil_append, World.size_alloc, size_ext, World.size_setCell, size_setMap, World.size_drew, size_drewN, upd, List.set_cons_zero, List.set_cons_succ, if_true, if_false, reduceIte, not_false_eq_true, ne_lt0, ne_lt1, ne_lt2, ne_lt3, ne_lt4] at O | skip)
                  (try clear cs)
                  (try clear v1)
                  (try clear v2)
                  (try clear v3)
                refine (H1.out _ (Mem.rd (c := c) O (by simp))).mono ?_
                rintro e w4 ⟨B, d, rfl, o⟩
                replace O := O.callp [] o
                clear o
                simp only [put, List.cons_append, List.nil_append] at O
                clear H1
                by_cases hb : be ≠ 0
                · have hv := HV3.out
                  rw [if_pos hb] at hv
                  subst hv
                  have hb2 : (be == 0) = false := by simpa using hb
                  have hb3 : ¬ (be = 0) := hb
                  clear HV3 hb
                  have cs := O.facts
                  simp only [factsP, cellsP, roomP, foots_cons, foots_nil, foots_append, foot_pt, ptb, ptb_mapA, foot_mapA, factsP_mapA, foot_bun, List.append_nil, List.nil_append, List.cons_append, List.nodup_cons, List.nodup_nil, List.mem_cons, List.not_mem_nil, List.mem_singleton, List.forall_mem_cons, not_or, not_false_eq_true, and_true, true_and, or_false, false_or, forall_eq_or_imp, forall_eq, implies_true, Nat.zero_add, Nat.reduceAdd, and_assoc, ptb_listA, factsP_listA, Nat.mul_one, rrL, byteCells] at cs
                  go_wp2_with fail
                  refine bodyPost_ret (v := .tuple #[.slice none 0 0, .bool false, .int .i64 be]) (by simp [results, Try.results23, go_sem]) rfl ?_
                  have O9 := Mem.listNil (e := 5) (size := 1) (cs := byteCells) (O.sel [false, true, true])
                  first
                    | exact ⟨none, 0, rfl, some ⟨g, 0, none⟩, c, O9⟩
                    | exact ⟨none, 0, some ⟨g, 0, none⟩, c, rfl, O9⟩
                · have hb0 : be = 0 := by simpa using hb
                  subst hb0
                  have hv := HV3.out
                  rw [if_neg hb] at hv
                  subst hv
                  have hdl : l.length - q = (l.drop q).length := by simp
                  have HDL := Lib.hid hdl
                  clear hdl HV3 hb
                  by_cases hcq : c = q
                  · subst hcq
                    have hdn : l.drop c = [] := List.drop_eq_nil_of_le HCC.out
                    have HDN := Lib.hid hdn
                    have hl0 : l.length - c = 0 := by have := HCC.out; omega
                    have HL0 := Lib.hid hl0
                    clear hdn hl0
                    have cs := O.facts
                    simp only [factsP, cellsP, roomP, foots_cons, foots_nil, foots_append, foot_pt, ptb, ptb_mapA, foot_mapA, factsP_mapA, foot_bun, List.append_nil, List.nil_append, List.cons_append, List.nodup_cons, List.nodup_nil, List.mem_cons, List.not_mem_nil, List.mem_singleton, List.forall_mem_cons, not_or, not_false_eq_true, and_true, true_and, or_false, false_or, forall_eq_or_imp, forall_eq, implies_true, Nat.zero_add, Nat.reduceAdd, and_assoc, ptb_listA, factsP_listA, Nat.mul_one, rrL, byteCells] at cs
                    go_wp2_with ((at_builtin; refine byteTy.wl_app (ptList (cs := byteCells) (l := []) (fun _ => rfl) (O.alloc [] 5) (by simp)) rfl rfl rfl rfl [] (by first | rfl | exact HL0.out.symm) rfl (by rw [HL0.out]; exact Rd.nil.src) (by simp) ?_; intro A1 c1 w5 O4; have cs1 := O4.facts; simp only [rst, factsP, cellsP, roomP, foots_cons, foots_nil, foots_append, foot_pt, ptb, ptb_mapA, foot_mapA, factsP_mapA, foot_bun, List.append_nil, List.nil_append, List.cons_append, List.nodup_cons, List.nodup_nil, List.mem_cons, List.not_mem_nil, List.mem_singleton, List.forall_mem_cons, not_or, not_false_eq_true, and_true, true_and, or_false, false_or, forall_eq_or_imp, forall_eq, implies_true, Nat.zero_add, Nat.reduceAdd, and_assoc, ptb_listA, factsP_listA, Nat.mul_one, rrL, byteCells] at cs1))
                    refine bodyPost_ret (v := .tuple #[.slice B (bo.getD []).length d, .bool true, .int .i64 0]) (by simp [results, Try.results23, go_sem]) rfl ⟨B, d, rfl, A1, c1, ?_⟩
                    rw [HDN.out]
                    simp only [rrL, List.length_nil]
                    have O2 := (O4.front [false, false, true]).setCell (b := pb) (j := 0) (v := .slice A1 0 c1) (by simp [sel, ptb])
                    simp only [sel, rst, List.cons_append, List.nil_append, upd, if_true, List.set_cons_zero] at O2
                    exact (O2.front [false, false, true]).sel [true, true, true]
                  · have hRD : ∀ W, Rd W (some ⟨g, 0, none⟩) l → Rd W (some ⟨g, q, none⟩) (l.drop q) := fun W hR => by simpa using hR.drop q
                    have HRD := Lib.hid hRD
                    clear hRD
                    have cs := O.facts
                    simp only [factsP, cellsP, roomP, foots_cons, foots_nil, foots_append, foot_pt, ptb, ptb_mapA, foot_mapA, factsP_mapA, foot_bun, List.append_nil, List.nil_append, List.cons_append, List.nodup_cons, List.nodup_nil, List.mem_cons, List.not_mem_nil, List.mem_singleton, List.forall_mem_cons, not_or, not_false_eq_true, and_true, true_and, or_false, false_or, forall_eq_or_imp, forall_eq, implies_true, Nat.zero_add, Nat.reduceAdd, and_assoc, ptb_listA, factsP_listA, Nat.mul_one, rrL, byteCells] at cs
                    go_wp2_with ((at_builtin; refine byteTy.wl_app (ptList (cs := byteCells) (l := []) (fun _ => rfl) (O.alloc [] 5) (by simp)) rfl rfl rfl rfl (l.drop q) HDL.out.symm rfl (by rw [HDL.out]; exact (HRD.out _ (Mem.rd (c := c) (O.alloc [] 5) (by simp))).src) (by have := HLL.out; simp; omega) ?_; intro A1 c1 w5 O4; have cs1 := O4.facts; simp only [rst, factsP, cellsP, roomP, foots_cons, foots_nil, foots_append, foot_pt, ptb, ptb_mapA, foot_mapA, factsP_mapA, foot_bun, List.append_nil, List.nil_append, List.cons_append, List.nodup_cons, List.nodup_nil, List.mem_cons, List.not_mem_nil, List.mem_singleton, List.forall_mem_cons, not_or, not_false_eq_true, and_true, true_and, or_false, false_or, forall_eq_or_imp, forall_eq, implies_true, Nat.zero_add, Nat.reduceAdd, and_assoc, ptb_listA, factsP_listA, Nat.mul_one, rrL, byteCells] at cs1))
                    refine bodyPost_ret (v := .tuple #[.slice B (bo.getD []).length d, .bool true, .int .i64 0]) (by simp [results, Try.results23, go_sem]) rfl ⟨B, d, rfl, A1, c1, ?_⟩
                    simp only [rrL, ← HDL.out]
                    have O2 := (O4.front [false, false, true]).setCell (b := pb) (j := 0) (v := .slice A1 (l.length - q) c1) (by simp [sel, ptb])
                    simp only [sel, rst, List.cons_append, List.nil_append, upd, if_true, List.set_cons_zero] at O2
                    exact (O2.front [false, false, true]).sel [true, true, true]
        · have hv := HV.out
          have hf : faultP l = (0, 32) := by
            unfold faultP
            rw [hd0, hd1, if_pos (.inr ⟨h2, m1⟩)]
          unfold nextP at hv
          rw [hf] at hv
          simp at hv
          subst hv
          have a1 := byte_ne m1
          have a2 : ((x1.toNat : Int) == 78) = false := by simpa using a1
          have a3 : ((x1.toNat : Int) != 78) = true := by simpa using a1
          clear HV hf hd0 hd1 h2 hp hc hl hA0 m1
          skip
          go_enter Try.func23, Try.ntmps23
          have cs := O.facts
          simp only [factsP, cellsP, roomP, foots_cons, foots_nil, foots_append, foot_pt, ptb, ptb_mapA, foot_mapA, factsP_mapA, foot_bun, List.append_nil, List.nil_append, List.cons_append, List.nodup_cons, List.nodup_nil, List.mem_cons, List.not_mem_nil, List.mem_singleton, List.forall_mem_cons, not_or, not_false_eq_true, and_true, true_and, or_false, false_or, forall_eq_or_imp, forall_eq, implies_true, Nat.zero_add, Nat.reduceAdd, and_assoc, ptb_listA, factsP_listA, Nat.mul_one, rrL, byteCells] at cs
          have v1 := (listA_at (cs := byteCells) (fun _ => rfl) (O.hold (bytesA (some ⟨g, 0, none⟩) c l) (by simp)) E0.out)
          try simp only [cellsQ, roomP, and_assoc, and_true, true_and, Nat.add_zero, Nat.zero_add, Nat.reduceAdd, factsP, cellsP, roomP, foots_cons, foots_nil, foots_append, foot_pt, ptb, ptb_mapA, foot_mapA, factsP_mapA, foot_bun, List.append_nil, List.nil_append, List.cons_append, List.nodup_cons, List.nodup_nil, List.mem_cons, List.not_mem_nil, List.mem_singleton, List.forall_mem_cons, not_or, not_false_eq_true, and_true, true_and, or_false, false_or, forall_eq_or_imp, forall_eq, implies_true, Nat.zero_add, Nat.reduceAdd, and_assoc, ptb_listA, factsP_listA, Nat.mul_one, rrL, byteCells] at v1
          have v2 := (listA_at (cs := byteCells) (fun _ => rfl) (O.hold (bytesA (some ⟨g, 0, none⟩) c l) (by simp)) E1.out)
          try simp only [cellsQ, roomP, and_assoc, and_true, true_and, Nat.add_zero, Nat.zero_add, Nat.reduceAdd, factsP, cellsP, roomP, foots_cons, foots_nil, foots_append, foot_pt, ptb, ptb_mapA, foot_mapA, factsP_mapA, foot_bun, List.append_nil, List.nil_append, List.cons_append, List.nodup_cons, List.nodup_nil, List.mem_cons, List.not_mem_nil, List.mem_singleton, List.forall_mem_cons, not_or, not_false_eq_true, and_true, true_and, or_false, false_or, forall_eq_or_imp, forall_eq, implies_true, Nat.zero_add, Nat.reduceAdd, and_assoc, ptb_listA, factsP_listA, Nat.mul_one, rrL, byteCells] at v2
          go_wp2_with fail
          refine bodyPost_ret (v := .tuple #[.slice none 0 0, .bool false, .int .i64 32]) (by simp [results, Try.results23, go_sem]) rfl ?_
          first
            | first | exact ⟨none, 0, some ⟨g, 0, none⟩, c, rfl, Mem.listNil O⟩ | exact ⟨none, 0, rfl, some ⟨g, 0, none⟩, c, Mem.listNil O⟩
            | exact ⟨none, 0, rfl, some ⟨g, 0, none⟩, c, Mem.listNil O⟩
    · have hv := HV.out
      have hf : faultP l = (0, 32) := by
        unfold faultP
        rw [hd0, if_pos (.inl ⟨by omega, m0⟩)]
      unfold nextP at hv
      rw [hf] at hv
      simp at hv
      subst hv
      have a1 := byte_ne m0
      have a2 : ((x0.toNat : Int) == 84) = false := by simpa using a1
      have a3 : ((x0.toNat : Int) != 84) = true := by simpa using a1
      clear HV hf hd0 hp hc hl hA0 m0
      skip
      go_enter Try.func23, Try.ntmps23
      have cs := O.facts
      simp only [factsP, cellsP, roomP, foots_cons, foots_nil, foots_append, foot_pt, ptb, ptb_mapA, foot_mapA, factsP_mapA, foot_bun, List.append_nil, List.nil_append, List.cons_append, List.nodup_cons, List.nodup_nil, List.mem_cons, List.not_mem_nil, List.mem_singleton, List.forall_mem_cons, not_or, not_false_eq_true, and_true, true_and, or_false, false_or, forall_eq_or_imp, forall_eq, implies_true, Nat.zero_add, Nat.reduceAdd, and_assoc, ptb_listA, factsP_listA, Nat.mul_one, rrL, byteCells] at cs
      have v1 := (listA_at (cs := byteCells) (fun _ => rfl) (O.hold (bytesA (some ⟨g, 0, none⟩) c l) (by simp)) E0.out)
      try simp only [cellsQ, roomP, and_assoc, and_true, true_and, Nat.add_zero, Nat.zero_add, Nat.reduceAdd, factsP, cellsP, roomP, foots_cons, foots_nil, foots_append, foot_pt, ptb, ptb_mapA, foot_mapA, factsP_mapA, foot_bun, List.append_nil, List.nil_append, List.cons_append, List.nodup_cons, List.nodup_nil, List.mem_cons, List.not_mem_nil, List.mem_singleton, List.forall_mem_cons, not_or, not_false_eq_true, and_true, true_and, or_false, false_or, forall_eq_or_imp, forall_eq, implies_true, Nat.zero_add, Nat.reduceAdd, and_assoc, ptb_listA, factsP_listA, Nat.mul_one, rrL, byteCells] at v1
      go_wp2_with fail
      refine bodyPost_ret (v := .tuple #[.slice none 0 0, .bool false, .int .i64 32]) (by simp [results, Try.results23, go_sem]) rfl ?_
      first
        | first | exact ⟨none, 0, some ⟨g, 0, none⟩, c, rfl, Mem.listNil O⟩ | exact ⟨none, 0, rfl, some ⟨g, 0, none⟩, c, Mem.listNil O⟩
        | exact ⟨none, 0, rfl, some ⟨g, 0, none⟩, c, Mem.listNil O⟩
end Go.Proofs.Ytomcahmgmmbmmaa
