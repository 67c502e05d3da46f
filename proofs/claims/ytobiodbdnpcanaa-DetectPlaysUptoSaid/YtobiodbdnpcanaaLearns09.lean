/- WALK: a node whose beats come often is seldom wrongly suspected (DetectLearns). -/
import Derived.Test.YtobiodbdnpcanaaDetN09
set_option linter.unusedVariables false
set_option linter.unusedSimpArgs false
namespace Go.Proofs.Ytobiodbdnpcanaa
open Go.RowKit Go.WideShapes Go.ChangeShapes Go.Tk
def inI64 (c : Int) : Prop := -9223372036854775808 ≤ c ∧ c ≤ 9223372036854775807
theorem suspects_one (p : Peer) (now : Int) : suspects9 [(0, p)] now = if (timeOk now && badP p now) = true then [0] else [] := by
  have h1 : (keysOf [((0 : Int), p)]).mergeSort leB = [0] := by simp [keysOf]
  have h2 : mget [((0 : Int), p)] 0 = some p := rfl
  unfold suspects9
  rw [h1]
  simp only [List.filter_cons, List.filter_nil, h2, Option.getD_some]
theorem wait_range (p : Peer) : 4 ≤ waitP p ∧ waitP p ≤ 4096 := by unfold waitP; repeat' split <;> omega
/-- what is known of the one node -/
structure Knows (p : Peer) (now : Int) (i k : Nat) : Prop where
  ok : p.ok
  last : p.last = now
  now0 : 0 ≤ now ∧ now ≤ 4096 * i
  i3 : i ≤ 3000
  k12 : k ≤ 12
  pow : (2 ^ k : Nat) ≤ p.margin
theorem Knows.step {p : Peer} {now : Int} {i k : Nat} (h : Knows p now i k) (hi : i < 3000) {g : Int} (hg : 0 ≤ g ∧ g ≤ 4096) : Knows (beatP p (now + g)) (now + g) (i + 1) (if badP p (now + g) = true then k + 1 else k) := by
  have h0 := h.now0
  have hl := h.last
  have hm := h.ok.margin
  have hme := h.ok.mean
  have hsil : silentP p (now + g) = g := by unfold silentP; rw [hl]; split <;> omega
  have hw12 : k = 12 → badP p (now + g) = false := by
    intro hk
    have hp := h.pow
    rw [hk] at hp
    have : (2 ^ 12 : Nat) = 4096 := by decide
    rw [this] at hp
    unfold badP
    rw [hsil]
    have : waitP p = 4096 := by unfold waitP; split <;> (try split) <;> omega
    rw [this]
    simp; omega
  refine ⟨beatP_ok h.ok ⟨by omega, by omega⟩, ?_, ⟨by omega, by omega⟩, by omega, ?_, ?_⟩
  · simp only [beatP]; omega
  · split
    · rename_i hb
      have := h.k12
      by_cases hk : k = 12
      · rw [hw12 hk] at hb; exact absurd hb (by simp)
      · omega
    · exact h.k12
  · simp only [beatP]
    split
    · rename_i hb
      have hk : k ≠ 12 := fun hk => by rw [hw12 hk] at hb; exact absurd hb (by simp)
      have h12 := h.k12
      have hp := h.pow
      have e : (2 ^ (k + 1) : Nat) = 2 * 2 ^ k := by rw [Nat.pow_succ]; omega
      have hle : (2 ^ (k + 1) : Nat) ≤ 2 ^ 12 := Nat.pow_le_pow_right (by omega) (by omega)
      have e12 : (2 ^ 12 : Nat) = 4096 := by decide
      generalize (2 ^ (k + 1) : Nat) = a at *
      generalize (2 ^ k : Nat) = b at *
      omega
    · exact h.pow
theorem Knows.quiet {p : Peer} {now : Int} {i k : Nat} (h : Knows p now i k) : suspects9 [(0, p)] now = [] ∧ suspects9 [(0, p)] (now + waitP p) = [] ∧ suspects9 [(0, p)] (now + waitP p + 1) = [0] := by
  have hw := wait_range p
  have h0 := h.now0
  have hi := h.i3
  have hl := h.last
  have s1 : silentP p now = 0 := by unfold silentP; rw [hl]; split <;> omega
  have s2 : silentP p (now + waitP p) = waitP p := by unfold silentP; rw [hl]; split <;> omega
  have s3 : silentP p (now + waitP p + 1) = waitP p + 1 := by unfold silentP; rw [hl]; split <;> omega
  refine ⟨?_, ?_, ?_⟩
  · rw [suspects_one, if_neg]
    unfold badP
    rw [s1]
    simp; omega
  · rw [suspects_one, if_neg]
    unfold badP
    rw [s2]
    simp
  · rw [suspects_one, if_pos]
    unfold badP timeOk
    rw [s3]
    simp; omega
theorem cells_int : Try.prog.cellsOf 3 = 1 := by kernel_rfl
theorem bound64 {n : Int} (h : (Lit.int .i64 n).wf = true) : -9223372036854775808 ≤ n ∧ n ≤ 9223372036854775807 := by
  simp only [Lit.wf, IntKind.min, IntKind.max, IntKind.signed, IntKind.bits, Bool.and_eq_true, decide_eq_true_eq] at h
  simp at h
  omega
theorem read_int {w : World} {N f : Nat} {cs : List Value} (h : Typed Try.prog w N f 3 cs) : ∃ n : Int, inI64 n ∧ cs = intCells n := by
  obtain ⟨n, e, hn⟩ := typed_int Try.underlying3 h
  exact ⟨n, bound64 hn, e⟩
theorem tmod_bd (a : Int) : -4096 ≤ a.tmod 4097 ∧ a.tmod 4097 ≤ 4096 := by
  by_cases h : 0 ≤ a
  · rw [Int.tmod_eq_emod_of_nonneg h]; omega
  · have e : a.tmod 4097 = -((-a).tmod 4097) := by rw [Int.neg_tmod]; omega
    rw [e, Int.tmod_eq_emod_of_nonneg (by omega)]; omega
theorem watch_zero (g : Int) : watch9 g [] 0 0 = (0, [(0, ⟨0, 0, g, false⟩)]) := by simp [watch9, timeOk, mget, mset]
theorem ok_one {p : Peer} (h : p.ok) : ∀ q ∈ [((0 : Int), p)], q.2.ok := by
  intro q hq
  simp only [List.mem_singleton] at hq
  subst hq
  exact h
theorem key_one {p : Peer} : ∀ q ∈ [((0 : Int), p)], intK.ok q.1 := by
  intro q hq
  simp only [List.mem_singleton] at hq
  subst hq
  exact okInt ⟨by omega, by omega⟩
set_option maxRecDepth 100000 in
set_option maxHeartbeats 16000000 in
theorem learns_walk (w : World) (x : Int) (hx : inI64 x) (V : Value) (l : List Int) (hl : ArgList w 1 intCells V l) (hok : ∀ a ∈ l, inI64 a) : Calls Try.prog 3 #[.int .i64 x, V] w (fun e w' => e = .returned (.bool true) ∧ Below w.heap.size w w') := by
  obtain ⟨hlen0, SA, sc, rfl, hlat⟩ := hl
  have HC := Lib.hid hlat
  have HO := Lib.hid hok
  clear hlat hok
  obtain ⟨y, hy⟩ : ∃ y, y = if x < 0 then -(x + 1) else x := ⟨_, rfl⟩
  have hy0 : 0 ≤ y ∧ y ≤ 9223372036854775807 := by unfold inI64 at hx; rw [hy]; split <;> omega
  have O : Mem w [] w [] := Mem.begin
  go_enter Try.func3, Try.ntmps3
  have cs := O.facts
  simp only [factsP, cellsP, roomP, foots_cons, foots_nil, foots_append, foot_pt, ptb, ptb_mapA, foot_mapA, factsP_mapA, foot_bun, List.append_nil, List.nil_append, List.cons_append, List.nodup_cons, List.nodup_nil, List.mem_cons, List.not_mem_nil, List.mem_singleton, List.forall_mem_cons, not_or, not_false_eq_true, and_true, true_and, or_false, false_or, forall_eq_or_imp, forall_eq, implies_true, Nat.zero_add, Nat.reduceAdd, and_assoc, factsP_mapA, ptb_mapA, ptb_listA, factsP_listA, Nat.mul_one, intCells] at cs
  go_wp2_with fail
  first | apply Mem.atCall | apply Mem.atCode | apply Mem.atList
  case h => repeat' (first | (with_reducible exact O) | (with_reducible apply Mem.drew) | (with_reducible apply Mem.drewN) | (with_reducible apply Mem.ext) | (with_reducible apply Mem.alloc) | (with_reducible apply Mem.setCell) | (simp only [ptb, ptb_upd, foots_cons, List.mem_cons, World.size_alloc, size_ext, World.size_setCell, true_or, or_true, eq_self_iff_true, ptb_mapA, ptb_listA]))
  case' k =>
    intro w1 O'
    (try clear O)
    have O := O'
    clear O'
    (first | simp only [sel, rst, List.cons_append, List.nil_append, World.size_alloc, size_ext, World.size_setCell, size_setMap, World.size_drew, size_drewN, upd, List.set_cons_zero, List.set_cons_succ, if_true, if_false, reduceIte, not_false_eq_true, ne_lt0, ne_lt1, ne_lt2, ne_lt3, ne_lt4, cs] at O | simp only [sel, rst, List.cons_append, List.nil_append, World.size_alloc, size_ext, World.size_setCell, size_setMap, World.size_drew, size_drewN, upd, List.set_cons_zero, List.set_cons_succ, if_true, if_false, reduceIte, not_false_eq_true, ne_lt0, ne_lt1, ne_lt2, ne_lt3, ne_lt4] at O | skip)
    (try clear cs)
    (try clear v1)
    (try clear v2)
    (try clear v3)
  refine (law_awake _).mono ?_
  rintro e w2 ⟨rfl, o⟩
  replace O := O.callp [] o
  clear o
  simp only [put, List.cons_append, List.nil_append] at O
  try simp only [List.append_nil] at O
  have cs := O.facts
  simp only [factsP, cellsP, roomP, foots_cons, foots_nil, foots_append, foot_pt, ptb, ptb_mapA, foot_mapA, factsP_mapA, foot_bun, List.append_nil, List.nil_append, List.cons_append, List.nodup_cons, List.nodup_nil, List.mem_cons, List.not_mem_nil, List.mem_singleton, List.forall_mem_cons, not_or, not_false_eq_true, and_true, true_and, or_false, false_or, forall_eq_or_imp, forall_eq, implies_true, Nat.zero_add, Nat.reduceAdd, and_assoc, factsP_mapA, ptb_mapA, ptb_listA, factsP_listA, Nat.mul_one, intCells] at cs
  go_upto_if 17 with fail
  go_cut [0] (fun s0 wc => s0 = .int .i64 y ∧ Mem w [] wc [])
  case first =>
    by_cases h : x < 0
    · have e1 : IntKind.i64.wrap (x + 1) = x + 1 := by unfold inI64 at hx; simp [IntKind.wrap, IntKind.signed, IntKind.bits]; omega
      have e2 : IntKind.i64.wrap (-(x + 1)) = -(x + 1) := by unfold inI64 at hx; simp [IntKind.wrap, IntKind.signed, IntKind.bits]; omega
      rw [if_pos h] at hy
      have h' : decide (x < 0) = true := by simpa using h
      clear h
      have cs := O.facts
      simp only [factsP, cellsP, roomP, foots_cons, foots_nil, foots_append, foot_pt, ptb, ptb_mapA, foot_mapA, factsP_mapA, foot_bun, List.append_nil, List.nil_append, List.cons_append, List.nodup_cons, List.nodup_nil, List.mem_cons, List.not_mem_nil, List.mem_singleton, List.forall_mem_cons, not_or, not_false_eq_true, and_true, true_and, or_false, false_or, forall_eq_or_imp, forall_eq, implies_true, Nat.zero_add, Nat.reduceAdd, and_assoc, factsP_mapA, ptb_mapA, ptb_listA, factsP_listA, Nat.mul_one, intCells] at cs
      go_wp2_with fail
      go_meet
      exact ⟨by rw [hy], O⟩
    · rw [if_neg h] at hy
      have h' : decide (x < 0) = false := by simpa using h
      clear h
      have cs := O.facts
      simp only [factsP, cellsP, roomP, foots_cons, foots_nil, foots_append, foot_pt, ptb, ptb_mapA, foot_mapA, factsP_mapA, foot_bun, List.append_nil, List.nil_append, List.cons_append, List.nodup_cons, List.nodup_nil, List.mem_cons, List.not_mem_nil, List.mem_singleton, List.forall_mem_cons, not_or, not_false_eq_true, and_true, true_and, or_false, false_or, forall_eq_or_imp, forall_eq, implies_true, Nat.zero_add, Nat.reduceAdd, and_assoc, factsP_mapA, ptb_mapA, ptb_listA, factsP_listA, Nat.mul_one, intCells] at cs
      go_wp2_with fail
      go_meet
      exact ⟨by rw [hy], O⟩
  case rest =>
    clear O hy
    obtain ⟨rfl, O⟩ := hcut
    have hg : 1 ≤ y % 4096 + 1 ∧ y % 4096 + 1 ≤ 4096 := by omega
    have hr : y.tmod 4096 = y % 4096 := by rw [Int.tmod_eq_emod_of_nonneg hy0.1]
    have e1 : IntKind.i64.wrap (y % 4096) = y % 4096 := by simp [IntKind.wrap, IntKind.signed, IntKind.bits]; omega
    have e2 : IntKind.i64.wrap (1 + y % 4096) = y % 4096 + 1 := by simp [IntKind.wrap, IntKind.signed, IntKind.bits]; omega
    generalize hgg : y % 4096 + 1 = g at *
    have HG := Lib.hid hg
    have HX := Lib.hid hx
    clear hgg hg hx hy0
    have cs := O.facts
    simp only [factsP, cellsP, roomP, foots_cons, foots_nil, foots_append, foot_pt, ptb, ptb_mapA, foot_mapA, factsP_mapA, foot_bun, List.append_nil, List.nil_append, List.cons_append, List.nodup_cons, List.nodup_nil, List.mem_cons, List.not_mem_nil, List.mem_singleton, List.forall_mem_cons, not_or, not_false_eq_true, and_true, true_and, or_false, false_or, forall_eq_or_imp, forall_eq, implies_true, Nat.zero_add, Nat.reduceAdd, and_assoc, factsP_mapA, ptb_mapA, ptb_listA, factsP_listA, Nat.mul_one, intCells] at cs
    go_wp2_with fail
    first | apply Mem.atCall | apply Mem.atCode | apply Mem.atList
    case h => repeat' (first | (with_reducible exact O) | (with_reducible apply Mem.drew) | (with_reducible apply Mem.drewN) | (with_reducible apply Mem.ext) | (with_reducible apply Mem.alloc) | (with_reducible apply Mem.setCell) | (simp only [ptb, ptb_upd, foots_cons, List.mem_cons, World.size_alloc, size_ext, World.size_setCell, true_or, or_true, eq_self_iff_true, ptb_mapA, ptb_listA]))
    case' k =>
      intro w3 O'
      (try clear O)
      have O := O'
      clear O'
      (first | simp only [sel, rst, List.cons_append, List.nil_append, World.size_alloc, size_ext, World.size_setCell, size_setMap, World.size_drew, size_drewN, upd, List.set_cons_zero, List.set_cons_succ, if_true, if_false, reduceIte, not_false_eq_true, ne_lt0, ne_lt1, ne_lt2, ne_lt3, ne_lt4, cs] at O | simp only [sel, rst, List.cons_append, List.nil_append, World.size_alloc, size_ext, World.size_setCell, size_setMap, World.size_drew, size_drewN, upd, List.set_cons_zero, List.set_cons_succ, if_true, if_false, reduceIte, not_false_eq_true, ne_lt0, ne_lt1, ne_lt2, ne_lt3, ne_lt4] at O | skip)
      (try clear cs)
      (try clear v1)
      (try clear v2)
      (try clear v3)
    refine (d_New g _ HG.out).mono ?_
    rintro e w4 ⟨rfl, o⟩
    replace O := O.callp [] o
    clear o
    simp only [put, List.cons_append, List.nil_append] at O
    generalize w3.heap.size = mb at O ⊢
    simp only [detL, List.append_nil] at O
    clear e1 e2 hr
    have cs := O.facts
    simp only [factsP, cellsP, roomP, foots_cons, foots_nil, foots_append, foot_pt, ptb, ptb_mapA, foot_mapA, factsP_mapA, foot_bun, List.append_nil, List.nil_append, List.cons_append, List.nodup_cons, List.nodup_nil, List.mem_cons, List.not_mem_nil, List.mem_singleton, List.forall_mem_cons, not_or, not_false_eq_true, and_true, true_and, or_false, false_or, forall_eq_or_imp, forall_eq, implies_true, Nat.zero_add, Nat.reduceAdd, and_assoc, factsP_mapA, ptb_mapA, ptb_listA, factsP_listA, Nat.mul_one, intCells] at cs
    go_wp2_with fail
    first | apply Mem.atCall | apply Mem.atCode | apply Mem.atList
    case h => repeat' (first | (with_reducible exact O) | (with_reducible apply Mem.drew) | (with_reducible apply Mem.drewN) | (with_reducible apply Mem.ext) | (with_reducible apply Mem.alloc) | (with_reducible apply Mem.setCell) | (simp only [ptb, ptb_upd, foots_cons, List.mem_cons, World.size_alloc, size_ext, World.size_setCell, true_or, or_true, eq_self_iff_true, ptb_mapA, ptb_listA]))
    case' k =>
      intro w5 O'
      (try clear O)
      have O := O'
      clear O'
      (first | simp only [sel, rst, List.cons_append, List.nil_append, World.size_alloc, size_ext, World.size_setCell, size_setMap, World.size_drew, size_drewN, upd, List.set_cons_zero, List.set_cons_succ, if_true, if_false, reduceIte, not_false_eq_true, ne_lt0, ne_lt1, ne_lt2, ne_lt3, ne_lt4, cs] at O | simp only [sel, rst, List.cons_append, List.nil_append, World.size_alloc, size_ext, World.size_setCell, size_setMap, World.size_drew, size_drewN, upd, List.set_cons_zero, List.set_cons_succ, if_true, if_false, reduceIte, not_false_eq_true, ne_lt0, ne_lt1, ne_lt2, ne_lt3, ne_lt4] at O | skip)
      (try clear cs)
      (try clear v1)
      (try clear v2)
      (try clear v3)
    refine (d_Watch w5 (mb + 1) mb g [] (O.pre [true, true]) 0 0 ⟨by omega, by omega⟩).mono ?_
    rintro e w6 ⟨rfl, o⟩
    rw [watch_zero] at o ⊢
    replace O := O.callp [true, true] o
    clear o
    simp only [detL, put, List.cons_append, List.nil_append] at O
    have cs := O.facts
    simp only [factsP, cellsP, roomP, foots_cons, foots_nil, foots_append, foot_pt, ptb, ptb_mapA, foot_mapA, factsP_mapA, foot_bun, List.append_nil, List.nil_append, List.cons_append, List.nodup_cons, List.nodup_nil, List.mem_cons, List.not_mem_nil, List.mem_singleton, List.forall_mem_cons, not_or, not_false_eq_true, and_true, true_and, or_false, false_or, forall_eq_or_imp, forall_eq, implies_true, Nat.zero_add, Nat.reduceAdd, and_assoc, factsP_mapA, ptb_mapA, ptb_listA, factsP_listA, Nat.mul_one, intCells] at cs
    go_wp2_with fail
    generalize hdb : mb + 1 = db at O ⊢
    clear hdb cs
    have hK0 : Knows ⟨0, 0, g, false⟩ 0 0 0 := by
      have := HG.out
      exact ⟨⟨by simp, by simp, by simp; omega⟩, rfl, by simp, by omega, by omega, by simp; omega⟩
    have HK0 := Lib.hid hK0
    clear hK0
    go_loopw [8, 9, 10] (fun s8 s9 s10 wr => ∃ (i k : Nat) (now : Int) (p : Peer), i ≤ l.length ∧ s10 = .int .i64 i ∧ s9 = .int .i64 k ∧ s8 = .int .i64 now ∧ Mem w [] wr [.pt db [.int .i64 g, .map (some mb)] 56, mapA intK Peer.val mb [(0, p)]] ∧ Hid (Knows p now i k)) (fun _ _ s10 _ => l.length - (intOf s10).toNat)
    case atStart => exact ⟨0, 0, 0, ⟨0, 0, g, false⟩, by omega, rfl, rfl, rfl, O, HK0⟩
    case round =>
      clear O HK0
      obtain ⟨i, k, now, p, hi, rfl, rfl, rfl, O, HK⟩ := hrel
      by_cases hlt : i < l.length ∧ i < 3000
      case neg =>
        have hk13 : decide ((k : Int) ≤ 13) = true := by have := HK.out.k12; simp; omega
        have hcase : (i < l.length ∧ ¬ i < 3000) ∨ ¬ i < l.length := by omega
        skip
        rcases hcase with ⟨h1, h2⟩ | h1
        · have h3 : (i : Int) < l.length := by omega
          have h4 : ¬ (i : Int) < 3000 := by omega
          have cs := O.facts
          simp only [factsP, cellsP, roomP, foots_cons, foots_nil, foots_append, foot_pt, ptb, ptb_mapA, foot_mapA, factsP_mapA, foot_bun, List.append_nil, List.nil_append, List.cons_append, List.nodup_cons, List.nodup_nil, List.mem_cons, List.not_mem_nil, List.mem_singleton, List.forall_mem_cons, not_or, not_false_eq_true, and_true, true_and, or_false, false_or, forall_eq_or_imp, forall_eq, implies_true, Nat.zero_add, Nat.reduceAdd, and_assoc, factsP_mapA, ptb_mapA, ptb_listA, factsP_listA, Nat.mul_one, intCells] at cs
          go_wp2_with fail
          go_ret
          exact ⟨by first | rfl | (simp [hk13]; done) | (simpa using hk13), O.fr0.fr.below rfl⟩
        · have h3 : ¬ (i : Int) < l.length := by omega
          have cs := O.facts
          simp only [factsP, cellsP, roomP, foots_cons, foots_nil, foots_append, foot_pt, ptb, ptb_mapA, foot_mapA, factsP_mapA, foot_bun, List.append_nil, List.nil_append, List.cons_append, List.nodup_cons, List.nodup_nil, List.mem_cons, List.not_mem_nil, List.mem_singleton, List.forall_mem_cons, not_or, not_false_eq_true, and_true, true_and, or_false, false_or, forall_eq_or_imp, forall_eq, implies_true, Nat.zero_add, Nat.reduceAdd, and_assoc, factsP_mapA, ptb_mapA, ptb_listA, factsP_listA, Nat.mul_one, intCells] at cs
          go_wp2_with fail
          go_ret
          exact ⟨by first | rfl | (simp [hk13]; done) | (simpa using hk13), O.fr0.fr.below rfl⟩
      case pos =>
        obtain ⟨hlt, h3000⟩ := hlt
        have hlti : (i : Int) < l.length := by omega
        have h3i : (i : Int) < 3000 := by omega
        obtain ⟨b, off, rfl, hbb, hq⟩ := HC.out i _ (List.getElem?_eq_getElem hlt)
        have hoo := HO.out _ (List.getElem_mem hlt)
        generalize l[i] = a at *
        have V := Lib.hid (fun W (h : Fr [] w W) => arg_view hbb hq h)
        simp only [intCells, cellsQ, Nat.add_zero, Nat.reduceAdd, and_true, Nat.zero_add, Nat.mul_one] at V
        have hbd := tmod_bd a
        have e0 : IntKind.i64.wrap (a.tmod 4097) = a.tmod 4097 := by simp [IntKind.wrap, IntKind.signed, IntKind.bits]; omega
        clear hoo hq
        obtain ⟨t, ht⟩ : ∃ t, a.tmod 4097 = t := ⟨_, rfl⟩
        rw [ht] at hbd e0
        obtain ⟨G, hG⟩ : ∃ G, G = if t < 0 then -t else t := ⟨_, rfl⟩
        have hG0 : 0 ≤ G ∧ G ≤ 4096 := by rw [hG]; split <;> omega
        skip
        have cs := O.facts
        simp only [factsP, cellsP, roomP, foots_cons, foots_nil, foots_append, foot_pt, ptb, ptb_mapA, foot_mapA, factsP_mapA, foot_bun, List.append_nil, List.nil_append, List.cons_append, List.nodup_cons, List.nodup_nil, List.mem_cons, List.not_mem_nil, List.mem_singleton, List.forall_mem_cons, not_or, not_false_eq_true, and_true, true_and, or_false, false_or, forall_eq_or_imp, forall_eq, implies_true, Nat.zero_add, Nat.reduceAdd, and_assoc, factsP_mapA, ptb_mapA, ptb_listA, factsP_listA, Nat.mul_one, intCells] at cs
        have v1 := V.out _ O.fr
        simp only [roomP, and_assoc] at v1
        go_upto_if 59 with fail
        skip
        go_cut [11] (fun s11 wc => s11 = .int .i64 G ∧ Mem w [] wc [.pt db [.int .i64 g, .map (some mb)] 56, mapA intK Peer.val mb [(0, p)]])
        case first =>
          by_cases h : t < 0
          · have e2 : IntKind.i64.wrap (-t) = -t := by simp [IntKind.wrap, IntKind.signed, IntKind.bits]; omega
            rw [if_pos h] at hG
            have cs := O.facts
            simp only [factsP, cellsP, roomP, foots_cons, foots_nil, foots_append, foot_pt, ptb, ptb_mapA, foot_mapA, factsP_mapA, foot_bun, List.append_nil, List.nil_append, List.cons_append, List.nodup_cons, List.nodup_nil, List.mem_cons, List.not_mem_nil, List.mem_singleton, List.forall_mem_cons, not_or, not_false_eq_true, and_true, true_and, or_false, false_or, forall_eq_or_imp, forall_eq, implies_true, Nat.zero_add, Nat.reduceAdd, and_assoc, factsP_mapA, ptb_mapA, ptb_listA, factsP_listA, Nat.mul_one, intCells] at cs
            go_wp2_with fail
            go_meet
            exact ⟨by rw [hG], O⟩
          · rw [if_neg h] at hG
            have cs := O.facts
            simp only [factsP, cellsP, roomP, foots_cons, foots_nil, foots_append, foot_pt, ptb, ptb_mapA, foot_mapA, factsP_mapA, foot_bun, List.append_nil, List.nil_append, List.cons_append, List.nodup_cons, List.nodup_nil, List.mem_cons, List.not_mem_nil, List.mem_singleton, List.forall_mem_cons, not_or, not_false_eq_true, and_true, true_and, or_false, false_or, forall_eq_or_imp, forall_eq, implies_true, Nat.zero_add, Nat.reduceAdd, and_assoc, factsP_mapA, ptb_mapA, ptb_listA, factsP_listA, Nat.mul_one, intCells] at cs
            go_wp2_with fail
            go_meet
            exact ⟨by rw [hG], O⟩
        case rest =>
          clear O hG hbd e0 V ht
          obtain ⟨rfl, O⟩ := hcut
          have hst := HK.out.step h3000 hG0
          have hok := HK.out.ok
          have hn0 := HK.out.now0
          have e1 : IntKind.i64.wrap (now + G) = now + G := by simp [IntKind.wrap, IntKind.signed, IntKind.bits]; omega
          have hnr : 0 ≤ now + G ∧ now + G ≤ 1099511627776 := by omega
          have hS := suspects_one p (now + G)
          have htm : timeOk (now + G) = true := by simp [timeOk]; omega
          rw [htm, Bool.true_and] at hS
          obtain ⟨n', hn'⟩ : ∃ n', now + G = n' := ⟨_, rfl⟩
          rw [hn'] at hst hnr hS e1
          have HST := Lib.hid hst
          have HOK := Lib.hid hok
          have HNR := Lib.hid hnr
          have HS := Lib.hid hS
          clear hst hok hn0 hnr hS htm hG0
          skip
          have cs := O.facts
          simp only [factsP, cellsP, roomP, foots_cons, foots_nil, foots_append, foot_pt, ptb, ptb_mapA, foot_mapA, factsP_mapA, foot_bun, List.append_nil, List.nil_append, List.cons_append, List.nodup_cons, List.nodup_nil, List.mem_cons, List.not_mem_nil, List.mem_singleton, List.forall_mem_cons, not_or, not_false_eq_true, and_true, true_and, or_false, false_or, forall_eq_or_imp, forall_eq, implies_true, Nat.zero_add, Nat.reduceAdd, and_assoc, factsP_mapA, ptb_mapA, ptb_listA, factsP_listA, Nat.mul_one, intCells] at cs
          go_wp2_with fail
          first | apply Mem.atCall | apply Mem.atCode | apply Mem.atList
          case h => repeat' (first | (with_reducible exact O) | (with_reducible apply Mem.drew) | (with_reducible apply Mem.drewN) | (with_reducible apply Mem.ext) | (with_reducible apply Mem.alloc) | (with_reducible apply Mem.setCell) | (simp only [ptb, ptb_upd, foots_cons, List.mem_cons, World.size_alloc, size_ext, World.size_setCell, true_or, or_true, eq_self_iff_true, ptb_mapA, ptb_listA]))
          case' k =>
            intro x1 O'
            (try clear O)
            have O := O'
            clear O'
            (first | simp only [sel, rst, List.cons_append, List.nil_append, World.size_alloc, size_ext, World.size_setCell, size_setMap, World.size_drew, size_drewN, upd, List.set_cons_zero, List.set_cons_succ, if_true, if_false, reduceIte, not_false_eq_true, ne_lt0, ne_lt1, ne_lt2, ne_lt3, ne_lt4, cs] at O | simp only [sel, rst, List.cons_append, List.nil_append, World.size_alloc, size_ext, World.size_setCell, size_setMap, World.size_drew, size_drewN, upd, List.set_cons_zero, List.set_cons_succ, if_true, if_false, reduceIte, not_false_eq_true, ne_lt0, ne_lt1, ne_lt2, ne_lt3, ne_lt4] at O | skip)
            (try clear cs)
            (try clear v1)
            (try clear v2)
            (try clear v3)
          refine (d_Suspects x1 db mb g [(0, p)] (O.pre [true, true]) n' ⟨by have := HNR.out; omega, by have := HNR.out; omega⟩ (by simp) (ok_one HOK.out) key_one).mono ?_
          rintro e x2 ⟨A1, d1, rfl, o⟩
          replace O := O.callp [] o
          clear o
          simp only [put, List.cons_append, List.nil_append] at O
          rw [HS.out] at O ⊢
          clear hn' e1
          obtain ⟨k', hk'⟩ : ∃ k', k' = if badP p n' = true then k + 1 else k := ⟨_, rfl⟩
          have HST2 := Lib.hid (hk' ▸ HST.out : Knows (beatP p n') n' (i + 1) k')
          have hk12 := HK.out.k12
          have cs := O.facts
          simp only [factsP, cellsP, roomP, foots_cons, foots_nil, foots_append, foot_pt, ptb, ptb_mapA, foot_mapA, factsP_mapA, foot_bun, List.append_nil, List.nil_append, List.cons_append, List.nodup_cons, List.nodup_nil, List.mem_cons, List.not_mem_nil, List.mem_singleton, List.forall_mem_cons, not_or, not_false_eq_true, and_true, true_and, or_false, false_or, forall_eq_or_imp, forall_eq, implies_true, Nat.zero_add, Nat.reduceAdd, and_assoc, factsP_mapA, ptb_mapA, ptb_listA, factsP_listA, Nat.mul_one, intCells] at cs
          go_upto_if 69 with fail
          go_cut [9] (fun s9 wc => s9 = .int .i64 k' ∧ Mem w [] wc [.pt db [.int .i64 g, .map (some mb)] 56, mapA intK Peer.val mb [(0, p)]])
          case first =>
            clear HST HST2
            cases hb : badP p n'
            · rw [hb] at hk'
              simp only [hb] at O ⊢
              rw [if_neg (by simp)] at hk'
              have cs := O.facts
              simp only [factsP, cellsP, roomP, foots_cons, foots_nil, foots_append, foot_pt, ptb, ptb_mapA, foot_mapA, factsP_mapA, foot_bun, List.append_nil, List.nil_append, List.cons_append, List.nodup_cons, List.nodup_nil, List.mem_cons, List.not_mem_nil, List.mem_singleton, List.forall_mem_cons, not_or, not_false_eq_true, and_true, true_and, or_false, false_or, forall_eq_or_imp, forall_eq, implies_true, Nat.zero_add, Nat.reduceAdd, and_assoc, factsP_mapA, ptb_mapA, ptb_listA, factsP_listA, Nat.mul_one, intCells] at cs
              go_wp2_with fail
              go_meet
              exact ⟨by rw [hk'], O.sel [false, true, true]⟩
            · rw [hb] at hk'
              simp only [hb] at O ⊢
              rw [if_pos rfl] at hk'
              have cs := O.facts
              simp only [factsP, cellsP, roomP, foots_cons, foots_nil, foots_append, foot_pt, ptb, ptb_mapA, foot_mapA, factsP_mapA, foot_bun, List.append_nil, List.nil_append, List.cons_append, List.nodup_cons, List.nodup_nil, List.mem_cons, List.not_mem_nil, List.mem_singleton, List.forall_mem_cons, not_or, not_false_eq_true, and_true, true_and, or_false, false_or, forall_eq_or_imp, forall_eq, implies_true, Nat.zero_add, Nat.reduceAdd, and_assoc, factsP_mapA, ptb_mapA, ptb_listA, factsP_listA, Nat.mul_one, intCells] at cs
              go_wp2_with fail
              go_meet
              refine ⟨by rw [hk']; first | rfl | (simp; done) | go_num, O.sel [false, true, true]⟩
          case rest =>
            clear O HST HS hk'
            obtain ⟨rfl, O⟩ := hcut
            have cs := O.facts
            simp only [factsP, cellsP, roomP, foots_cons, foots_nil, foots_append, foot_pt, ptb, ptb_mapA, foot_mapA, factsP_mapA, foot_bun, List.append_nil, List.nil_append, List.cons_append, List.nodup_cons, List.nodup_nil, List.mem_cons, List.not_mem_nil, List.mem_singleton, List.forall_mem_cons, not_or, not_false_eq_true, and_true, true_and, or_false, false_or, forall_eq_or_imp, forall_eq, implies_true, Nat.zero_add, Nat.reduceAdd, and_assoc, factsP_mapA, ptb_mapA, ptb_listA, factsP_listA, Nat.mul_one, intCells] at cs
            go_wp2_with fail
            first | apply Mem.atCall | apply Mem.atCode | apply Mem.atList
            case h => repeat' (first | (with_reducible exact O) | (with_reducible apply Mem.drew) | (with_reducible apply Mem.drewN) | (with_reducible apply Mem.ext) | (with_reducible apply Mem.alloc) | (with_reducible apply Mem.setCell) | (simp only [ptb, ptb_upd, foots_cons, List.mem_cons, World.size_alloc, size_ext, World.size_setCell, true_or, or_true, eq_self_iff_true, ptb_mapA, ptb_listA]))
            case' k =>
              intro x3 O'
              (try clear O)
              have O := O'
              clear O'
              (first | simp only [sel, rst, List.cons_append, List.nil_append, World.size_alloc, size_ext, World.size_setCell, size_setMap, World.size_drew, size_drewN, upd, List.set_cons_zero, List.set_cons_succ, if_true, if_false, reduceIte, not_false_eq_true, ne_lt0, ne_lt1, ne_lt2, ne_lt3, ne_lt4, cs] at O | simp only [sel, rst, List.cons_append, List.nil_append, World.size_alloc, size_ext, World.size_setCell, size_setMap, World.size_drew, size_drewN, upd, List.set_cons_zero, List.set_cons_succ, if_true, if_false, reduceIte, not_false_eq_true, ne_lt0, ne_lt1, ne_lt2, ne_lt3, ne_lt4] at O | skip)
              (try clear cs)
              (try clear v1)
              (try clear v2)
              (try clear v3)
            refine (d_Beat x3 db mb g [(0, p)] (O.pre [true, true]) 0 n' ⟨by omega, by omega⟩ p rfl HOK.out HNR.out).mono ?_
            rintro e x4 ⟨rfl, o⟩
            replace O := O.callp [true, true] o
            clear o
            have hms : mset [((0 : Int), p)] 0 (beatP p n') = [(0, beatP p n')] := rfl
            rw [hms] at O
            clear hms
            simp only [detL, put, List.cons_append, List.nil_append] at O
            generalize beatP p n' = q at O HST2
            have hqk := HST2.out.quiet
            have hqo := HST2.out.ok
            have hwr := wait_range q
            have hn0 := HST2.out.now0
            have hi3 := HST2.out.i3
            have cs := O.facts
            simp only [factsP, cellsP, roomP, foots_cons, foots_nil, foots_append, foot_pt, ptb, ptb_mapA, foot_mapA, factsP_mapA, foot_bun, List.append_nil, List.nil_append, List.cons_append, List.nodup_cons, List.nodup_nil, List.mem_cons, List.not_mem_nil, List.mem_singleton, List.forall_mem_cons, not_or, not_false_eq_true, and_true, true_and, or_false, false_or, forall_eq_or_imp, forall_eq, implies_true, Nat.zero_add, Nat.reduceAdd, and_assoc, factsP_mapA, ptb_mapA, ptb_listA, factsP_listA, Nat.mul_one, intCells] at cs
            go_wp2_with fail
            first | apply Mem.atCall | apply Mem.atCode | apply Mem.atList
            case h => repeat' (first | (with_reducible exact O) | (with_reducible apply Mem.drew) | (with_reducible apply Mem.drewN) | (with_reducible apply Mem.ext) | (with_reducible apply Mem.alloc) | (with_reducible apply Mem.setCell) | (simp only [ptb, ptb_upd, foots_cons, List.mem_cons, World.size_alloc, size_ext, World.size_setCell, true_or, or_true, eq_self_iff_true, ptb_mapA, ptb_listA]))
            case' k =>
              intro x5 O'
              (try clear O)
              have O := O'
              clear O'
              (first | simp only [sel, rst, List.cons_append, List.nil_append, World.size_alloc, size_ext, World.size_setCell, size_setMap, World.size_drew, size_drewN, upd, List.set_cons_zero, List.set_cons_succ, if_true, if_false, reduceIte, not_false_eq_true, ne_lt0, ne_lt1, ne_lt2, ne_lt3, ne_lt4, cs] at O | simp only [sel, rst, List.cons_append, List.nil_append, World.size_alloc, size_ext, World.size_setCell, size_setMap, World.size_drew, size_drewN, upd, List.set_cons_zero, List.set_cons_succ, if_true, if_false, reduceIte, not_false_eq_true, ne_lt0, ne_lt1, ne_lt2, ne_lt3, ne_lt4] at O | skip)
              (try clear cs)
              (try clear v1)
              (try clear v2)
              (try clear v3)
            refine (d_Wait x5 db mb g [(0, q)] (O.pre [true, true]) 0 (okInt ⟨by omega, by omega⟩) q rfl hqo).mono ?_
            rintro e x6 ⟨rfl, o⟩
            replace O := O.callp [] o
            clear o
            simp only [put, List.cons_append, List.nil_append] at O
            generalize waitP q = wv at hqk hwr ⊢
            have g1 : decide (wv < 4) = false := by simp; omega
            have g2 : decide (4096 < wv) = false := by simp; omega
            have e2 : IntKind.i64.wrap (n' + wv) = n' + wv := by simp [IntKind.wrap, IntKind.signed, IntKind.bits]; omega
            have e3 : IntKind.i64.wrap (n' + wv + 1) = n' + wv + 1 := by simp [IntKind.wrap, IntKind.signed, IntKind.bits]; omega
            have HB := Lib.hid (show n' + wv + 1 ≤ 9223372036854775807 ∧ 0 ≤ n' ∧ 0 ≤ wv by omega)
            have HQ := Lib.hid hqk
            have HQO := Lib.hid hqo
            clear hqk hqo hwr hn0 hi3
            have cs := O.facts
            simp only [factsP, cellsP, roomP, foots_cons, foots_nil, foots_append, foot_pt, ptb, ptb_mapA, foot_mapA, factsP_mapA, foot_bun, List.append_nil, List.nil_append, List.cons_append, List.nodup_cons, List.nodup_nil, List.mem_cons, List.not_mem_nil, List.mem_singleton, List.forall_mem_cons, not_or, not_false_eq_true, and_true, true_and, or_false, false_or, forall_eq_or_imp, forall_eq, implies_true, Nat.zero_add, Nat.reduceAdd, and_assoc, factsP_mapA, ptb_mapA, ptb_listA, factsP_listA, Nat.mul_one, intCells] at cs
            go_wp2_with fail
            first | apply Mem.atCall | apply Mem.atCode | apply Mem.atList
            case h => repeat' (first | (with_reducible exact O) | (with_reducible apply Mem.drew) | (with_reducible apply Mem.drewN) | (with_reducible apply Mem.ext) | (with_reducible apply Mem.alloc) | (with_reducible apply Mem.setCell) | (simp only [ptb, ptb_upd, foots_cons, List.mem_cons, World.size_alloc, size_ext, World.size_setCell, true_or, or_true, eq_self_iff_true, ptb_mapA, ptb_listA]))
            case' k =>
              intro x7 O'
              (try clear O)
              have O := O'
              clear O'
              (first | simp only [sel, rst, List.cons_append, List.nil_append, World.size_alloc, size_ext, World.size_setCell, size_setMap, World.size_drew, size_drewN, upd, List.set_cons_zero, List.set_cons_succ, if_true, if_false, reduceIte, not_false_eq_true, ne_lt0, ne_lt1, ne_lt2, ne_lt3, ne_lt4, cs] at O | simp only [sel, rst, List.cons_append, List.nil_append, World.size_alloc, size_ext, World.size_setCell, size_setMap, World.size_drew, size_drewN, upd, List.set_cons_zero, List.set_cons_succ, if_true, if_false, reduceIte, not_false_eq_true, ne_lt0, ne_lt1, ne_lt2, ne_lt3, ne_lt4] at O | skip)
              (try clear cs)
              (try clear v1)
              (try clear v2)
              (try clear v3)
            refine (d_Suspects x7 db mb g [(0, q)] (O.pre [true, true]) n' ⟨by have := HB.out; omega, by have := HB.out; omega⟩ (by simp) (ok_one HQO.out) key_one).mono ?_
            rintro e x8 ⟨A2, d2, rfl, o⟩
            replace O := O.callp [] o
            clear o
            simp only [put, List.cons_append, List.nil_append] at O
            rw [HQ.out.1] at O ⊢
            have cs := O.facts
            simp only [factsP, cellsP, roomP, foots_cons, foots_nil, foots_append, foot_pt, ptb, ptb_mapA, foot_mapA, factsP_mapA, foot_bun, List.append_nil, List.nil_append, List.cons_append, List.nodup_cons, List.nodup_nil, List.mem_cons, List.not_mem_nil, List.mem_singleton, List.forall_mem_cons, not_or, not_false_eq_true, and_true, true_and, or_false, false_or, forall_eq_or_imp, forall_eq, implies_true, Nat.zero_add, Nat.reduceAdd, and_assoc, factsP_mapA, ptb_mapA, ptb_listA, factsP_listA, Nat.mul_one, intCells] at cs
            go_wp2_with fail
            first | apply Mem.atCall | apply Mem.atCode | apply Mem.atList
            case h => repeat' (first | (with_reducible exact O) | (with_reducible apply Mem.drew) | (with_reducible apply Mem.drewN) | (with_reducible apply Mem.ext) | (with_reducible apply Mem.alloc) | (with_reducible apply Mem.setCell) | (simp only [ptb, ptb_upd, foots_cons, List.mem_cons, World.size_alloc, size_ext, World.size_setCell, true_or, or_true, eq_self_iff_true, ptb_mapA, ptb_listA]))
            case' k =>
              intro x9 O'
              (try clear O)
              have O := O'
              clear O'
              (first | simp only [sel, rst, List.cons_append, List.nil_append, World.size_alloc, size_ext, World.size_setCell, size_setMap, World.size_drew, size_drewN, upd, List.set_cons_zero, List.set_cons_succ, if_true, if_false, reduceIte, not_false_eq_true, ne_lt0, ne_lt1, ne_lt2, ne_lt3, ne_lt4, cs] at O | simp only [sel, rst, List.cons_append, List.nil_append, World.size_alloc, size_ext, World.size_setCell, size_setMap, World.size_drew, size_drewN, upd, List.set_cons_zero, List.set_cons_succ, if_true, if_false, reduceIte, not_false_eq_true, ne_lt0, ne_lt1, ne_lt2, ne_lt3, ne_lt4] at O | skip)
              (try clear cs)
              (try clear v1)
              (try clear v2)
              (try clear v3)
            refine (d_Suspects x9 db mb g [(0, q)] (O.pre [false, true, true]) (n' + wv) ⟨by have := HB.out; omega, by have := HB.out; omega⟩ (by simp) (ok_one HQO.out) key_one).mono ?_
            rintro e xa ⟨A3, d3, rfl, o⟩
            replace O := O.callp [] o
            clear o
            simp only [put, List.cons_append, List.nil_append] at O
            rw [HQ.out.2.1] at O ⊢
            have cs := O.facts
            simp only [factsP, cellsP, roomP, foots_cons, foots_nil, foots_append, foot_pt, ptb, ptb_mapA, foot_mapA, factsP_mapA, foot_bun, List.append_nil, List.nil_append, List.cons_append, List.nodup_cons, List.nodup_nil, List.mem_cons, List.not_mem_nil, List.mem_singleton, List.forall_mem_cons, not_or, not_false_eq_true, and_true, true_and, or_false, false_or, forall_eq_or_imp, forall_eq, implies_true, Nat.zero_add, Nat.reduceAdd, and_assoc, factsP_mapA, ptb_mapA, ptb_listA, factsP_listA, Nat.mul_one, intCells] at cs
            go_wp2_with fail
            first | apply Mem.atCall | apply Mem.atCode | apply Mem.atList
            case h => repeat' (first | (with_reducible exact O) | (with_reducible apply Mem.drew) | (with_reducible apply Mem.drewN) | (with_reducible apply Mem.ext) | (with_reducible apply Mem.alloc) | (with_reducible apply Mem.setCell) | (simp only [ptb, ptb_upd, foots_cons, List.mem_cons, World.size_alloc, size_ext, World.size_setCell, true_or, or_true, eq_self_iff_true, ptb_mapA, ptb_listA]))
            case' k =>
              intro xb O'
              (try clear O)
              have O := O'
              clear O'
              (first | simp only [sel, rst, List.cons_append, List.nil_append, World.size_alloc, size_ext, World.size_setCell, size_setMap, World.size_drew, size_drewN, upd, List.set_cons_zero, List.set_cons_succ, if_true, if_false, reduceIte, not_false_eq_true, ne_lt0, ne_lt1, ne_lt2, ne_lt3, ne_lt4, cs] at O | simp only [sel, rst, List.cons_append, List.nil_append, World.size_alloc, size_ext, World.size_setCell, size_setMap, World.size_drew, size_drewN, upd, List.set_cons_zero, List.set_cons_succ, if_true, if_false, reduceIte, not_false_eq_true, ne_lt0, ne_lt1, ne_lt2, ne_lt3, ne_lt4] at O | skip)
              (try clear cs)
              (try clear v1)
              (try clear v2)
              (try clear v3)
            refine (d_Suspects xb db mb g [(0, q)] (O.pre [false, false, true, true]) (n' + wv + 1) ⟨by have := HB.out; omega, by have := HB.out; omega⟩ (by simp) (ok_one HQO.out) key_one).mono ?_
            rintro e xc ⟨A4, d4, rfl, o⟩
            replace O := O.callp [] o
            clear o
            simp only [put, List.cons_append, List.nil_append] at O
            rw [HQ.out.2.2] at O ⊢
            have cs := O.facts
            simp only [factsP, cellsP, roomP, foots_cons, foots_nil, foots_append, foot_pt, ptb, ptb_mapA, foot_mapA, factsP_mapA, foot_bun, List.append_nil, List.nil_append, List.cons_append, List.nodup_cons, List.nodup_nil, List.mem_cons, List.not_mem_nil, List.mem_singleton, List.forall_mem_cons, not_or, not_false_eq_true, and_true, true_and, or_false, false_or, forall_eq_or_imp, forall_eq, implies_true, Nat.zero_add, Nat.reduceAdd, and_assoc, factsP_mapA, ptb_mapA, ptb_listA, factsP_listA, Nat.mul_one, intCells] at cs
            go_wp2_with fail
            go_roundw
            case rel => exact ⟨i + 1, k', n', q, by omega, by go_num, rfl, rfl, O.sel [false, false, false, true, true], HST2⟩
            case measure => simp [intOf]; omega
end Go.Proofs.Ytobiodbdnpcanaa
