/- WALKS: what is wrong with a frame (fault), a frame's body (body, Unwrap). -/
import Derived.Test.YtomcahmgmmbmmaaWrap03
set_option linter.unusedVariables false
set_option linter.unusedSimpArgs false
namespace Go.Proofs.Ytomcahmgmmbmmaa
open Go.RowKit Go.Tk
def faultP (l : List UInt8) : Nat × Int :=
  if (1 ≤ l.length ∧ l.getD 0 0 ≠ 84) ∨ (2 ≤ l.length ∧ l.getD 1 0 ≠ 78) then (0, 32) else if l.length < 6 then (0, 0) else if 65536 < num4 (l.drop 2) then (0, 31) else (num4 (l.drop 2) + 10, 0)
def bodyP (l : List UInt8) : Option (List UInt8) × Int := if sumP ((l.drop 2).take 4) (l.drop 10) = num4 (l.drop 6) then (some (l.drop 10), 0) else (none, 34)
def unwrapP (l : List UInt8) : Option (List UInt8) × Int := if l.length < 10 then (none, 32) else if (faultP l).2 ≠ 0 then (none, (faultP l).2) else if l.length ≠ (faultP l).1 then (none, 33) else bodyP l
theorem byte_ne {x y : UInt8} (h : x ≠ y) : ¬ ((x.toNat : Int) = (y.toNat : Int)) := fun e => h (UInt8.toNat_inj.1 (by omega))
set_option maxRecDepth 100000 in
set_option maxHeartbeats 8000000 in
theorem fr_fault (w : World) (A : Option Addr) (c : Nat) (l : List UInt8) (h : Rd w A l) (hc : l.length ≤ c) (hl : l.length ≤ 2000000) :
    Calls Try.prog 26 #[.slice A l.length c] w (fun e w' => e = .returned (.tuple #[.int .i64 ((faultP l).1 : Int), .int .i64 (faultP l).2]) ∧ Mem w [] w' []) := by
  have O : Mem w [] w [] := Mem.begin
  obtain ⟨v, hv⟩ : ∃ v, v = faultP l := ⟨_, rfl⟩
  rw [← hv]
  unfold faultP at hv
  have HV := Lib.hid hv
  clear hv
  have H := Lib.hid h
  clear h
  rcases Nat.eq_zero_or_pos l.length with h0 | hp
  · have hv := HV.out
    simp only [h0] at hv
    simp at hv
    subst hv
    clear HV
    rw [h0]
    go_enter Try.func26, Try.ntmps26
    have cs := O.facts
    simp only [factsP, cellsP, roomP, foots_cons, foots_nil, foots_append, foot_pt, ptb, ptb_mapA, foot_mapA, factsP_mapA, foot_bun, List.append_nil, List.nil_append, List.cons_append, List.nodup_cons, List.nodup_nil, List.mem_cons, List.not_mem_nil, List.mem_singleton, List.forall_mem_cons, not_or, not_false_eq_true, and_true, true_and, or_false, false_or, forall_eq_or_imp, forall_eq, implies_true, Nat.zero_add, Nat.reduceAdd, and_assoc, ptb_listA, factsP_listA, Nat.mul_one] at cs
    go_wp2_with fail
    go_ret2
    exact ⟨rfl, O⟩
  · obtain ⟨b, off, rfl, hb⟩ := H.out.addr hp
    obtain ⟨x0, e0⟩ : ∃ x, l[0]? = some x := ⟨_, List.getElem?_eq_getElem hp⟩
    have hd0 : l.getD 0 0 = x0 := by rw [List.getD_eq_getElem?_getD, e0]; rfl
    rcases Nat.lt_or_ge l.length 2 with h2 | h2
    · obtain ⟨n, hn⟩ : ∃ n, n = l.length := ⟨_, rfl⟩
      have V := Lib.hid (fun W (hW : Fr [] w W) => And.intro (roomP_of (Nat.lt_of_lt_of_le hb hW.size)) ((H.out.fr hW).at_ e0))
      simp only [Nat.add_zero] at V
      have hl1 : l.length = 1 := by omega
      have hv := HV.out
      simp only [hl1, hd0] at hv
      rw [hl1]
      skip
      by_cases hx : x0 = 84
      · subst hx
        simp at hv
        subst hv
        clear HV hn hl1 hd0 e0 hp h2
        go_enter Try.func26, Try.ntmps26
        have cs := O.facts
        simp only [factsP, cellsP, roomP, foots_cons, foots_nil, foots_append, foot_pt, ptb, ptb_mapA, foot_mapA, factsP_mapA, foot_bun, List.append_nil, List.nil_append, List.cons_append, List.nodup_cons, List.nodup_nil, List.mem_cons, List.not_mem_nil, List.mem_singleton, List.forall_mem_cons, not_or, not_false_eq_true, and_true, true_and, or_false, false_or, forall_eq_or_imp, forall_eq, implies_true, Nat.zero_add, Nat.reduceAdd, and_assoc, ptb_listA, factsP_listA, Nat.mul_one] at cs
        have v1 := V.out _ O.fr
        simp only [roomP, and_assoc] at v1
        go_wp2_with fail
        go_ret2
        exact ⟨rfl, O⟩
      · have hx2 : ¬ ((x0.toNat : Int) = 84) := byte_ne hx
        simp [hx] at hv
        subst hv
        clear HV hn hl1 hd0 e0 hp h2 hx
        go_enter Try.func26, Try.ntmps26
        have cs := O.facts
        simp only [factsP, cellsP, roomP, foots_cons, foots_nil, foots_append, foot_pt, ptb, ptb_mapA, foot_mapA, factsP_mapA, foot_bun, List.append_nil, List.nil_append, List.cons_append, List.nodup_cons, List.nodup_nil, List.mem_cons, List.not_mem_nil, List.mem_singleton, List.forall_mem_cons, not_or, not_false_eq_true, and_true, true_and, or_false, false_or, forall_eq_or_imp, forall_eq, implies_true, Nat.zero_add, Nat.reduceAdd, and_assoc, ptb_listA, factsP_listA, Nat.mul_one] at cs
        have v1 := V.out _ O.fr
        simp only [roomP, and_assoc] at v1
        go_wp2_with fail
        go_ret2
        exact ⟨rfl, O⟩
    · obtain ⟨x1, e1⟩ : ∃ x, l[1]? = some x := ⟨_, List.getElem?_eq_getElem h2⟩
      have hd1 : l.getD 1 0 = x1 := by rw [List.getD_eq_getElem?_getD, e1]; rfl
      have V := Lib.hid (fun W (hW : Fr [] w W) => And.intro (roomP_of (Nat.lt_of_lt_of_le hb hW.size)) (And.intro ((H.out.fr hW).at_ e0) ((H.out.fr hW).at_ e1)))
      simp only [Nat.add_zero] at V
      have hv := HV.out
      rw [hd0, hd1] at hv
      have HV2 := Lib.hid hv
      clear hv HV hd0 hd1 e0 e1
      have hp2 : 1 < l.length := by omega
      skip
      rcases Nat.lt_or_ge l.length 6 with h6 | h6
      · have hcs : x1 ≠ 78 ∨ (x1 = 78 ∧ x0 ≠ 84) ∨ (x1 = 78 ∧ x0 = 84) := by
          by_cases a : x1 = 78 <;> by_cases b : x0 = 84 <;> simp [a, b]
        rcases hcs with a | ⟨rfl, a⟩ | ⟨rfl, rfl⟩
        · have hv := HV2.out
          rw [if_pos (.inr ⟨h2, a⟩)] at hv
          subst hv
          have ha := byte_ne a
          have ha2 : ¬ ((x1.toNat : Int) = 78) := ha
          clear HV2 a ha
          go_enter Try.func26, Try.ntmps26
          have cs := O.facts
          simp only [factsP, cellsP, roomP, foots_cons, foots_nil, foots_append, foot_pt, ptb, ptb_mapA, foot_mapA, factsP_mapA, foot_bun, List.append_nil, List.nil_append, List.cons_append, List.nodup_cons, List.nodup_nil, List.mem_cons, List.not_mem_nil, List.mem_singleton, List.forall_mem_cons, not_or, not_false_eq_true, and_true, true_and, or_false, false_or, forall_eq_or_imp, forall_eq, implies_true, Nat.zero_add, Nat.reduceAdd, and_assoc, ptb_listA, factsP_listA, Nat.mul_one] at cs
          have v1 := V.out _ O.fr
          simp only [roomP, and_assoc] at v1
          go_wp2_with fail
          go_ret2
          exact ⟨rfl, O⟩
        · have hv := HV2.out
          rw [if_pos (.inl ⟨hp, a⟩)] at hv
          subst hv
          have ha2 : ¬ ((x0.toNat : Int) = 84) := byte_ne a
          clear HV2 a
          go_enter Try.func26, Try.ntmps26
          have cs := O.facts
          simp only [factsP, cellsP, roomP, foots_cons, foots_nil, foots_append, foot_pt, ptb, ptb_mapA, foot_mapA, factsP_mapA, foot_bun, List.append_nil, List.nil_append, List.cons_append, List.nodup_cons, List.nodup_nil, List.mem_cons, List.not_mem_nil, List.mem_singleton, List.forall_mem_cons, not_or, not_false_eq_true, and_true, true_and, or_false, false_or, forall_eq_or_imp, forall_eq, implies_true, Nat.zero_add, Nat.reduceAdd, and_assoc, ptb_listA, factsP_listA, Nat.mul_one] at cs
          have v1 := V.out _ O.fr
          simp only [roomP, and_assoc] at v1
          go_wp2_with fail
          go_ret2
          exact ⟨rfl, O⟩
        · have hv := HV2.out
          rw [if_neg (by simp), if_pos h6] at hv
          subst hv
          clear HV2
          go_enter Try.func26, Try.ntmps26
          have cs := O.facts
          simp only [factsP, cellsP, roomP, foots_cons, foots_nil, foots_append, foot_pt, ptb, ptb_mapA, foot_mapA, factsP_mapA, foot_bun, List.append_nil, List.nil_append, List.cons_append, List.nodup_cons, List.nodup_nil, List.mem_cons, List.not_mem_nil, List.mem_singleton, List.forall_mem_cons, not_or, not_false_eq_true, and_true, true_and, or_false, false_or, forall_eq_or_imp, forall_eq, implies_true, Nat.zero_add, Nat.reduceAdd, and_assoc, ptb_listA, factsP_listA, Nat.mul_one] at cs
          have v1 := V.out _ O.fr
          simp only [roomP, and_assoc] at v1
          go_wp2_with fail
          go_ret2
          exact ⟨rfl, O⟩
      · have hc2 : ¬ (c = 2) := by omega
        have hlen : l.length - 2 = (l.drop 2).length := by simp
        have hnl := num4_lt (l.drop 2)
        have RD := (H.out.drop 2)
        have NUM := Lib.hid (fun W hW => fr_number W (some ⟨b, off + 2, none⟩) (c - 2) (l.drop 2) (RD.fr hW) (by rw [← hlen]; omega))
        have HLEN := Lib.hid hlen
        clear RD hlen
        rw [← HLEN.out] at NUM
        generalize num4 (l.drop 2) = nn at *
        have hi6 : (6 : Int) ≤ l.length := by omega
        obtain ⟨N, hN⟩ : ∃ N : Int, N = (nn : Int) := ⟨_, rfl⟩
        rw [← hN] at NUM
        have hn32 : N < 4294967296 := by omega
        have hn0 : 0 ≤ N := by omega
        have HNN := Lib.hid hN
        have HNL := Lib.hid hnl
        clear hnl hN
        go_enter Try.func26, Try.ntmps26
        have cs := O.facts
        simp only [factsP, cellsP, roomP, foots_cons, foots_nil, foots_append, foot_pt, ptb, ptb_mapA, foot_mapA, factsP_mapA, foot_bun, List.append_nil, List.nil_append, List.cons_append, List.nodup_cons, List.nodup_nil, List.mem_cons, List.not_mem_nil, List.mem_singleton, List.forall_mem_cons, not_or, not_false_eq_true, and_true, true_and, or_false, false_or, forall_eq_or_imp, forall_eq, implies_true, Nat.zero_add, Nat.reduceAdd, and_assoc, ptb_listA, factsP_listA, Nat.mul_one] at cs
        have v1 := V.out _ O.fr
        simp only [roomP, and_assoc] at v1
        go_wp2_with fail
        first | apply Mem.atCall | apply Mem.atCode | apply Mem.atList
        case h => repeat' (first | (with_reducible exact O) | (with_reducible apply Mem.drew) | (with_reducible apply Mem.drewN) | (with_reducible apply Mem.ext) | (with_reducible apply Mem.alloc) | (with_reducible apply Mem.setCell) | (simp only [ptb, ptb_upd, foots_cons, List.mem_cons, World.size_alloc, size_ext, World.size_setCell, true_or, or_true, eq_self_iff_true]))
        case' k =>
          intro w1 O'
          (try clear O)
          have O := O'
          clear O'
          (first | simp only [sel, rst, List.cons_append, List.nil_append, World.size_alloc, size_ext, World.size_setCell, size_setMap, World.size_drew, size_drewN, upd, List.set_cons_zero, List.set_cons_succ, if_true, if_false, reduceIte, not_false_eq_true, ne_lt0, ne_lt1, ne_lt2, ne_lt3, ne_lt4, cs] at O | simp only [sel, rst, List.cons_append, List.nil_append, World.size_alloc, size_ext, World.size_setCell, size_setMap, World.size_drew, size_drewN, upd, List.set_cons_zero, List.set_cons_succ, if_true, if_false, reduceIte, not_false_eq_true, ne_lt0, ne_lt1, ne_lt2, ne_lt3, ne_lt4] at O | skip)
          (try clear cs)
          (try clear v1)
          (try clear v2)
          (try clear v3)
        refine (NUM.out _ O.fr).mono ?_
        rintro e w2 ⟨rfl, o⟩
        replace O := O.callp [] o
        clear o
        simp only [put, List.cons_append, List.nil_append] at O
        clear NUM
        have hcs : x1 ≠ 78 ∨ (x1 = 78 ∧ x0 ≠ 84) ∨ (x1 = 78 ∧ x0 = 84 ∧ 65536 < nn) ∨ (x1 = 78 ∧ x0 = 84 ∧ nn ≤ 65536) := by
          by_cases a : x1 = 78 <;> by_cases b : x0 = 84 <;> simp [a, b]
          omega
        rcases hcs with a | ⟨rfl, a⟩ | ⟨rfl, rfl, hn⟩ | ⟨rfl, rfl, hn⟩
        · have hv := HV2.out
          rw [if_pos (.inr ⟨h2, a⟩)] at hv
          subst hv
          have ha2 : ¬ ((x1.toNat : Int) = 78) := byte_ne a
          clear HV2 a
          have hn3 : 65536 < N ∨ ¬ (65536 < N) := by omega
          rcases hn3 with hn3 | hn3
          all_goals
            have cs := O.facts
            simp only [factsP, cellsP, roomP, foots_cons, foots_nil, foots_append, foot_pt, ptb, ptb_mapA, foot_mapA, factsP_mapA, foot_bun, List.append_nil, List.nil_append, List.cons_append, List.nodup_cons, List.nodup_nil, List.mem_cons, List.not_mem_nil, List.mem_singleton, List.forall_mem_cons, not_or, not_false_eq_true, and_true, true_and, or_false, false_or, forall_eq_or_imp, forall_eq, implies_true, Nat.zero_add, Nat.reduceAdd, and_assoc, ptb_listA, factsP_listA, Nat.mul_one] at cs
            have v1 := V.out _ O.fr
            simp only [roomP, and_assoc] at v1
            go_wp2_with fail
            go_ret2
            exact ⟨rfl, O⟩
        · have hv := HV2.out
          rw [if_pos (.inl ⟨hp, a⟩)] at hv
          subst hv
          have ha2 : ¬ ((x0.toNat : Int) = 84) := byte_ne a
          clear HV2 a
          have hn3 : 65536 < N ∨ ¬ (65536 < N) := by omega
          rcases hn3 with hn3 | hn3
          all_goals
            have cs := O.facts
            simp only [factsP, cellsP, roomP, foots_cons, foots_nil, foots_append, foot_pt, ptb, ptb_mapA, foot_mapA, factsP_mapA, foot_bun, List.append_nil, List.nil_append, List.cons_append, List.nodup_cons, List.nodup_nil, List.mem_cons, List.not_mem_nil, List.mem_singleton, List.forall_mem_cons, not_or, not_false_eq_true, and_true, true_and, or_false, false_or, forall_eq_or_imp, forall_eq, implies_true, Nat.zero_add, Nat.reduceAdd, and_assoc, ptb_listA, factsP_listA, Nat.mul_one] at cs
            have v1 := V.out _ O.fr
            simp only [roomP, and_assoc] at v1
            go_wp2_with fail
            go_ret2
            exact ⟨rfl, O⟩
        · have hv := HV2.out
          rw [if_neg (by simp), if_neg (by omega), if_pos hn] at hv
          subst hv
          have hn3 : 65536 < N := by have := HNN.out; omega
          clear HV2 hn
          have cs := O.facts
          simp only [factsP, cellsP, roomP, foots_cons, foots_nil, foots_append, foot_pt, ptb, ptb_mapA, foot_mapA, factsP_mapA, foot_bun, List.append_nil, List.nil_append, List.cons_append, List.nodup_cons, List.nodup_nil, List.mem_cons, List.not_mem_nil, List.mem_singleton, List.forall_mem_cons, not_or, not_false_eq_true, and_true, true_and, or_false, false_or, forall_eq_or_imp, forall_eq, implies_true, Nat.zero_add, Nat.reduceAdd, and_assoc, ptb_listA, factsP_listA, Nat.mul_one] at cs
          have v1 := V.out _ O.fr
          simp only [roomP, and_assoc] at v1
          go_wp2_with fail
          go_ret2
          exact ⟨rfl, O⟩
        · have hv := HV2.out
          rw [if_neg (by simp), if_neg (by omega), if_neg (by omega)] at hv
          subst hv
          have hn3 : ¬ (65536 < N) := by have := HNN.out; omega
          have hn4 : N ≤ 65536 := by have := HNN.out; omega
          clear HV2 hn
          have cs := O.facts
          simp only [factsP, cellsP, roomP, foots_cons, foots_nil, foots_append, foot_pt, ptb, ptb_mapA, foot_mapA, factsP_mapA, foot_bun, List.append_nil, List.nil_append, List.cons_append, List.nodup_cons, List.nodup_nil, List.mem_cons, List.not_mem_nil, List.mem_singleton, List.forall_mem_cons, not_or, not_false_eq_true, and_true, true_and, or_false, false_or, forall_eq_or_imp, forall_eq, implies_true, Nat.zero_add, Nat.reduceAdd, and_assoc, ptb_listA, factsP_listA, Nat.mul_one] at cs
          have v1 := V.out _ O.fr
          simp only [roomP, and_assoc] at v1
          go_wp2_with fail
          go_ret2
          refine ⟨?_, O⟩
          show Ending.returned (.tuple #[.int .i64 (N + 10), .int .i64 0]) = _
          rw [HNN.out]
          try rfl
theorem qMem {f : FuncId} {args : Array Value} {w : World} {x : Ext} {v : Value} (h : Calls Try.prog f args (w.ext x) (fun e w' => e = .returned v ∧ Mem (w.ext x) [] w' [])) : Calls Try.prog f args (w.ext x) fun e w'' => e = .returned v ∧ ∃ y, w'' = w.ext y :=
  h.mono fun _ _ ⟨he, hm⟩ => by
    obtain ⟨y, hy⟩ := of_below (hm.fr.below rfl)
    exact ⟨he, _, hy.trans ext_ext⟩
set_option maxRecDepth 100000 in
set_option maxHeartbeats 8000000 in
theorem fr_body (w : World) (A : Option Addr) (c : Nat) (l : List UInt8) (h : Rd w A l) (hc : l.length ≤ c) (h10 : 10 ≤ l.length) (hl : l.length ≤ 2000000) :
    Calls Try.prog 27 #[.slice A l.length c] w (fun e w' => ∃ A' c', e = .returned (.tuple #[.slice A' ((bodyP l).1.getD []).length c', .int .i64 (bodyP l).2]) ∧ Mem w [] w' [bytesA A' c' ((bodyP l).1.getD [])]) := by
  have O : Mem w [] w [] := Mem.begin
  obtain ⟨v, hv⟩ : ∃ v, v = bodyP l := ⟨_, rfl⟩
  rw [← hv]
  obtain ⟨b, off, rfl, hb⟩ := h.addr (by omega)
  have hA10 : ∃ A10, (if c = 10 then some (⟨b, off, none⟩ : Addr) else some ⟨b, off + 10, none⟩) = A10 ∧ Rd w A10 (l.drop 10) ∧ (A10 = none → c - 10 = 0) := by
    by_cases hc10 : c = 10
    · refine ⟨_, rfl, ?_, fun hx => by rw [if_pos hc10] at hx; simp at hx⟩
      rw [List.drop_eq_nil_of_le (by omega)]
      exact Rd.nil
    · refine ⟨_, rfl, ?_, fun hx => by rw [if_neg hc10] at hx; simp at hx⟩
      rw [if_neg hc10]
      exact h.drop 10
  obtain ⟨A10, hA, hR10, hn10⟩ := hA10
  have n26 : 6 - 2 = ((l.drop 2).take 4).length := by simp; omega
  have n10 : l.length - 10 = (l.drop 10).length := by simp
  have n6 : l.length - 6 = (l.drop 6).length := by simp
  have S1 := fun W (hW : Fr [] w W) => fr_Sum W 0#32 (some ⟨b, off + 2, none⟩) (c - 2) ((l.drop 2).take 4) (((h.drop 2).take 4).fr hW) (by simp; omega)
  have S2 := fun W (hW : Fr [] w W) => fr_Sum W (crc 0#32 ((l.drop 2).take 4)) A10 (c - 10) (l.drop 10) (hR10.fr hW) (by simp; omega)
  have S3 := fun W (hW : Fr [] w W) => fr_number W (some ⟨b, off + 6, none⟩) (c - 6) (l.drop 6) ((h.drop 6).fr hW) (by simp; omega)
  have S4 := fun W (hW : Fr [] w W) => fr_Clone W A10 (c - 10) (l.drop 10) (hR10.fr hW) (by simp; omega) hn10
  rw [← n26] at S1
  rw [← n10] at S2 S4
  rw [← n6] at S3
  simp only [Nat.reduceSub] at S1
  unfold bodyP sumP at hv
  generalize crc 0#32 ((l.drop 2).take 4) = y1 at *
  generalize crc y1 (l.drop 10) = y2 at *
  generalize num4 (l.drop 6) = N6 at *
  simp only [w32] at S1 S2
  rw [show (((0#32).toNat : Nat) : Int) = 0 from rfl] at S1
  have H1 := Lib.hid S1
  have H2 := Lib.hid S2
  have H3 := Lib.hid S3
  have H4 := Lib.hid S4
  have HA := Lib.hid hA
  clear S1 S2 S3 S4 h hR10 hn10 n26 n6 hA
  have N10 := Lib.hid n10
  clear n10
  have HV := Lib.hid hv
  clear hv
  have c2 : ¬ (c = 2) := by omega
  have c6 : ¬ (c = 6) := by omega
  have lt6 : (6 : Int) ≤ c := by omega
  have lt10 : (10 : Int) ≤ l.length := by omega
  have lt66 : (6 : Int) ≤ l.length := by omega
  have lt22 : (2 : Int) ≤ 6 := by omega
  have hmain : ∀ (hA : (c = 10 ∧ A10 = some ⟨b, off, none⟩) ∨ (¬ c = 10 ∧ A10 = some ⟨b, off + 10, none⟩)), True := fun _ => trivial
  clear hmain
  have hcase : (c = 10 ∧ some ⟨b, off, none⟩ = A10) ∨ (¬ c = 10 ∧ some ⟨b, off + 10, none⟩ = A10) := by
    have := HA.out
    by_cases hc10 : c = 10
    · rw [if_pos hc10] at this; exact .inl ⟨hc10, this⟩
    · rw [if_neg hc10] at this; exact .inr ⟨hc10, this⟩
  clear HA
  have HX := Lib.hid hcase
  clear hcase hc h10 hl
  skip
  by_cases hq : y2.toNat = N6
  · have hv := HV.out
    rw [if_pos hq] at hv
    subst hv hq
    clear HV
    rcases HX.out with ⟨rfl, rfl⟩ | ⟨hc10, rfl⟩
    all_goals
      clear HX
      try simp only [Nat.reduceSub] at H1 H2 H3 H4
      go_enter Try.func27, Try.ntmps27
      have cs := O.facts
      simp only [factsP, cellsP, roomP, foots_cons, foots_nil, foots_append, foot_pt, ptb, ptb_mapA, foot_mapA, factsP_mapA, foot_bun, List.append_nil, List.nil_append, List.cons_append, List.nodup_cons, List.nodup_nil, List.mem_cons, List.not_mem_nil, List.mem_singleton, List.forall_mem_cons, not_or, not_false_eq_true, and_true, true_and, or_false, false_or, forall_eq_or_imp, forall_eq, implies_true, Nat.zero_add, Nat.reduceAdd, and_assoc, ptb_listA, factsP_listA, Nat.mul_one] at cs
      go_wp2_with fail
      apply region_quiet_mem (by kernel_rfl) (by kernel_rfl)
      case O => repeat' (first | (with_reducible exact O) | (with_reducible apply Mem.drew) | (with_reducible apply Mem.drewN) | (with_reducible apply Mem.ext) | (with_reducible apply Mem.alloc) | (with_reducible apply Mem.setCell) | (simp only [ptb, ptb_upd, foots_cons, List.mem_cons, World.size_alloc, size_ext, World.size_setCell, true_or, or_true, eq_self_iff_true]))
      case' h =>
        intro w1 O'
        (try clear O)
        have O := O'
        clear O'
        (first | simp only [sel, rst, List.cons_append, List.nil_append, World.size_alloc, size_ext, World.size_setCell, size_setMap, World.size_drew, size_drewN, upd, List.set_cons_zero, List.set_cons_succ, if_true, if_false, reduceIte, not_false_eq_true, ne_lt0, ne_lt1, ne_lt2, ne_lt3, ne_lt4, cs] at O | simp only [sel, rst, List.cons_append, List.nil_append, World.size_alloc, size_ext, World.size_setCell, size_setMap, World.size_drew, size_drewN, upd, List.set_cons_zero, List.set_cons_succ, if_true, if_false, reduceIte, not_false_eq_true, ne_lt0, ne_lt1, ne_lt2, ne_lt3, ne_lt4] at O | skip)
        (try clear cs)
        (try clear v1)
        (try clear v2)
        (try clear v3)
      have cs := O.facts
      simp only [factsP, cellsP, roomP, foots_cons, foots_nil, foots_append, foot_pt, ptb, ptb_mapA, foot_mapA, factsP_mapA, foot_bun, List.append_nil, List.nil_append, List.cons_append, List.nodup_cons, List.nodup_nil, List.mem_cons, List.not_mem_nil, List.mem_singleton, List.forall_mem_cons, not_or, not_false_eq_true, and_true, true_and, or_false, false_or, forall_eq_or_imp, forall_eq, implies_true, Nat.zero_add, Nat.reduceAdd, and_assoc, ptb_listA, factsP_listA, Nat.mul_one] at cs
      repeat (go_big_quiet_step ((first | (go_at_call 16; with_reducible exact qMem (H1.out _ (O.ext).fr)) | (go_at_call 16; with_reducible exact qMem (H2.out _ (O.ext).fr)) | (go_at_call 32; with_reducible exact qMem (H3.out _ (O.ext).fr)))))
      refine wpQuiet_nil ?_
      intro w2 hq
      (try clear cs)
      (try clear v1)
      (try clear v2)
      (try clear v3)
      replace O := O.qext hq
      clear hq
      have cs := O.facts
      simp only [factsP, cellsP, roomP, foots_cons, foots_nil, foots_append, foot_pt, ptb, ptb_mapA, foot_mapA, factsP_mapA, foot_bun, List.append_nil, List.nil_append, List.cons_append, List.nodup_cons, List.nodup_nil, List.mem_cons, List.not_mem_nil, List.mem_singleton, List.forall_mem_cons, not_or, not_false_eq_true, and_true, true_and, or_false, false_or, forall_eq_or_imp, forall_eq, implies_true, Nat.zero_add, Nat.reduceAdd, and_assoc, ptb_listA, factsP_listA, Nat.mul_one] at cs
      go_wp2_with fail
      first | apply Mem.atCall | apply Mem.atCode | apply Mem.atList
      case h => repeat' (first | (with_reducible exact O) | (with_reducible apply Mem.drew) | (with_reducible apply Mem.drewN) | (with_reducible apply Mem.ext) | (with_reducible apply Mem.alloc) | (with_reducible apply Mem.setCell) | (simp only [ptb, ptb_upd, foots_cons, List.mem_cons, World.size_alloc, size_ext, World.size_setCell, true_or, or_true, eq_self_iff_true]))
      case' k =>
        intro w3 O'
        (try clear O)
        have O := O'
        clear O'
        (first | simp only [sel, rst, List.cons_append, List.nil_append, World.size_alloc, size_ext, World.size_setCell, size_setMap, World.size_drew, size_drewN, upd, List.set_cons_zero, List.set_cons_succ, if_true, if_false, reduceIte, not_false_eq_true, ne_lt0, ne_lt1, ne_lt2, ne_lt3, ne_lt4, cs] at O | simp only [sel, rst, List.cons_append, List.nil_append, World.size_alloc, size_ext, World.size_setCell, size_setMap, World.size_drew, size_drewN, upd, List.set_cons_zero, List.set_cons_succ, if_true, if_false, reduceIte, not_false_eq_true, ne_lt0, ne_lt1, ne_lt2, ne_lt3, ne_lt4] at O | skip)
        (try clear cs)
        (try clear v1)
        (try clear v2)
        (try clear v3)
      refine (H4.out _ O.fr).mono ?_
      rintro e w4 ⟨A', c', rfl, o⟩
      replace O := O.callp [] o
      simp only [put, List.append_nil] at O
      clear o
      have cs := O.facts
      simp only [factsP, cellsP, roomP, foots_cons, foots_nil, foots_append, foot_pt, ptb, ptb_mapA, foot_mapA, factsP_mapA, foot_bun, List.append_nil, List.nil_append, List.cons_append, List.nodup_cons, List.nodup_nil, List.mem_cons, List.not_mem_nil, List.mem_singleton, List.forall_mem_cons, not_or, not_false_eq_true, and_true, true_and, or_false, false_or, forall_eq_or_imp, forall_eq, implies_true, Nat.zero_add, Nat.reduceAdd, and_assoc, ptb_listA, factsP_listA, Nat.mul_one] at cs
      go_wp2_with fail
      go_ret2
      exact ⟨A', c', by rw [N10.out]; rfl, O⟩
  · have hv := HV.out
    rw [if_neg hq] at hv
    subst hv
    have hq2 : ((y2.toNat : Int) == (N6 : Int)) = false := by simp; omega
    have hq3 : ¬ ((y2.toNat : Int) = (N6 : Int)) := by omega
    clear HV hq
    rcases HX.out with ⟨rfl, rfl⟩ | ⟨hc10, rfl⟩
    all_goals
      clear HX
      try simp only [Nat.reduceSub] at H1 H2 H3 H4
      go_enter Try.func27, Try.ntmps27
      have cs := O.facts
      simp only [factsP, cellsP, roomP, foots_cons, foots_nil, foots_append, foot_pt, ptb, ptb_mapA, foot_mapA, factsP_mapA, foot_bun, List.append_nil, List.nil_append, List.cons_append, List.nodup_cons, List.nodup_nil, List.mem_cons, List.not_mem_nil, List.mem_singleton, List.forall_mem_cons, not_or, not_false_eq_true, and_true, true_and, or_false, false_or, forall_eq_or_imp, forall_eq, implies_true, Nat.zero_add, Nat.reduceAdd, and_assoc, ptb_listA, factsP_listA, Nat.mul_one] at cs
      go_wp2_with fail
      apply region_quiet_mem (by kernel_rfl) (by kernel_rfl)
      case O => repeat' (first | (with_reducible exact O) | (with_reducible apply Mem.drew) | (with_reducible apply Mem.drewN) | (with_reducible apply Mem.ext) | (with_reducible apply Mem.alloc) | (with_reducible apply Mem.setCell) | (simp only [ptb, ptb_upd, foots_cons, List.mem_cons, World.size_alloc, size_ext, World.size_setCell, true_or, or_true, eq_self_iff_true]))
      case' h =>
        intro w1 O'
        (try clear O)
        have O := O'
        clear O'
        (first | simp only [sel, rst, List.cons_append, List.nil_append, World.size_alloc, size_ext, World.size_setCell, size_setMap, World.size_drew, size_drewN, upd, List.set_cons_zero, List.set_cons_succ, if_true, if_false, reduceIte, not_false_eq_true, ne_lt0, ne_lt1, ne_lt2, ne_lt3, ne_lt4, cs] at O | simp only [sel, rst, List.cons_append, List.nil_append, World.size_alloc, size_ext, World.size_setCell, size_setMap, World.size_drew, size_drewN, upd, List.set_cons_zero, List.set_cons_succ, if_true, if_false, reduceIte, not_false_eq_true, ne_lt0, ne_lt1, ne_lt2, ne_lt3, ne_lt4] at O | skip)
        (try clear cs)
        (try clear v1)
        (try clear v2)
        (try clear v3)
      have cs := O.facts
      simp only [factsP, cellsP, roomP, foots_cons, foots_nil, foots_append, foot_pt, ptb, ptb_mapA, foot_mapA, factsP_mapA, foot_bun, List.append_nil, List.nil_append, List.cons_append, List.nodup_cons, List.nodup_nil, List.mem_cons, List.not_mem_nil, List.mem_singleton, List.forall_mem_cons, not_or, not_false_eq_true, and_true, true_and, or_false, false_or, forall_eq_or_imp, forall_eq, implies_true, Nat.zero_add, Nat.reduceAdd, and_assoc, ptb_listA, factsP_listA, Nat.mul_one] at cs
      repeat (go_big_quiet_step ((first | (go_at_call 16; with_reducible exact qMem (H1.out _ (O.ext).fr)) | (go_at_call 16; with_reducible exact qMem (H2.out _ (O.ext).fr)) | (go_at_call 32; with_reducible exact qMem (H3.out _ (O.ext).fr)))))
      refine wpQuiet_nil ?_
      intro w2 hq
      (try clear cs)
      (try clear v1)
      (try clear v2)
      (try clear v3)
      replace O := O.qext hq
      clear hq
      have cs := O.facts
      simp only [factsP, cellsP, roomP, foots_cons, foots_nil, foots_append, foot_pt, ptb, ptb_mapA, foot_mapA, factsP_mapA, foot_bun, List.append_nil, List.nil_append, List.cons_append, List.nodup_cons, List.nodup_nil, List.mem_cons, List.not_mem_nil, List.mem_singleton, List.forall_mem_cons, not_or, not_false_eq_true, and_true, true_and, or_false, false_or, forall_eq_or_imp, forall_eq, implies_true, Nat.zero_add, Nat.reduceAdd, and_assoc, ptb_listA, factsP_listA, Nat.mul_one] at cs
      go_wp2_with fail
      go_ret2
      exact ⟨none, 0, rfl, O.listNil⟩
end Go.Proofs.Ytomcahmgmmbmmaa
