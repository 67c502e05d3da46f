/- WALKS: a detector's small questions (time, silent, wait, bad). -/
import Derived.Test.YtobiodbdnpcanaaList
import Derived.Test.YtobiodbdnpcanaaProg
set_option linter.unusedVariables false
set_option linter.unusedSimpArgs false
namespace Go.Proofs.Ytobiodbdnpcanaa
open Go.RowKit Go.Tk
theorem quietMem {f : FuncId} {args : Array Value} {w : World} {x : Ext} {v : Value} (h : Calls Try.prog f args (w.ext x) (fun e w' => e = .returned v ∧ Mem (w.ext x) [] w' [])) : Calls Try.prog f args (w.ext x) fun e w'' => e = .returned v ∧ ∃ y, w'' = w.ext y :=
  h.mono fun _ _ ⟨he, hm⟩ => by
    obtain ⟨y, hy⟩ := of_below (hm.fr.below rfl)
    exact ⟨he, _, hy.trans ext_ext⟩
structure Peer where
  last : Int
  mean : Int
  margin : Int
  told : Bool
def Peer.val (p : Peer) : Value := .agg #[.int .i64 p.last, .int .i64 p.mean, .int .i64 p.margin, .bool p.told]
def Peer.cells (p : Peer) : List Value := [.int .i64 p.last, .int .i64 p.mean, .int .i64 p.margin, .bool p.told]
structure Peer.ok (p : Peer) : Prop where
  last : 0 ≤ p.last ∧ p.last ≤ 1099511627776
  mean : 0 ≤ p.mean ∧ p.mean ≤ 40000
  margin : 0 ≤ p.margin ∧ p.margin ≤ 4096
def timeOk (now : Int) : Bool := decide (0 ≤ now ∧ now ≤ 1099511627776)
def silentP (p : Peer) (now : Int) : Int := if now < p.last then 0 else now - p.last
def waitP (p : Peer) : Int := if p.mean / 8 + p.margin < 4 then 4 else if 4096 < p.mean / 8 + p.margin then 4096 else p.mean / 8 + p.margin
def badP (p : Peer) (now : Int) : Bool := decide (waitP p < silentP p now)
set_option maxRecDepth 100000 in
theorem d_time (now : Int) (w : World) : Calls Try.prog 18 #[.int .i64 now] w (fun e w' => e = .returned (.bool (timeOk now)) ∧ Mem w [] w' []) := by
  have O : Mem w [] w [] := Mem.begin
  by_cases h : 0 ≤ now
  · by_cases h2 : now ≤ 1099511627776
    · have ht : timeOk now = true := by simp [timeOk, h, h2]
      rw [ht]
      clear ht
      go_enter Try.func18, Try.ntmps18
      go_wp2
      go_ret
      exact ⟨rfl, O⟩
    · have ht : timeOk now = false := by simp [timeOk, h2]
      rw [ht]
      clear ht
      go_enter Try.func18, Try.ntmps18
      go_wp2
      go_ret
      exact ⟨rfl, O⟩
  · have ht : timeOk now = false := by simp [timeOk, h]
    rw [ht]
    clear ht
    have h3 : decide (0 ≤ now) = false := by simp [h]
    go_enter Try.func18, Try.ntmps18
    go_wp2
    go_ret
    exact ⟨rfl, O⟩
set_option maxRecDepth 100000 in
set_option maxHeartbeats 4000000 in
theorem d_silent (p : Peer) (hp : p.ok) (now : Int) (hn : -9223372036854775808 ≤ now ∧ now ≤ 9223372036854775807) (hm : 0 ≤ now) (w : World) : Calls Try.prog 20 #[p.val, .int .i64 now] w (fun e w' => e = .returned (.int .i64 (silentP p now)) ∧ Mem w [] w' []) := by
  have O : Mem w [] w [] := Mem.begin
  obtain ⟨v, hv⟩ : ∃ v, v = silentP p now := ⟨_, rfl⟩
  rw [← hv]
  have hw : IntKind.i64.wrap (now - p.last) = now - p.last := by have := hp.last; simp [IntKind.wrap, IntKind.signed, IntKind.bits]; omega
  have HV := Lib.hid hv
  clear hv hn hm
  obtain ⟨a, b, c, d⟩ := p
  have HP := Lib.hid hp
  clear hp
  simp only at hw
  simp only [Peer.val]
  go_enter Try.func20, Try.ntmps20
  have cs := O.facts
  simp only [factsP, cellsP, roomP, foots_cons, foots_nil, foots_append, foot_pt, ptb, ptb_mapA, foot_mapA, factsP_mapA, foot_bun, List.append_nil, List.nil_append, List.cons_append, List.nodup_cons, List.nodup_nil, List.mem_cons, List.not_mem_nil, List.mem_singleton, List.forall_mem_cons, not_or, not_false_eq_true, and_true, true_and, or_false, false_or, forall_eq_or_imp, forall_eq, implies_true, Nat.zero_add, Nat.reduceAdd, and_assoc] at cs
  go_wp2_with fail
  all_goals
    go_ret
    refine ⟨?_, (O.alloc (Peer.cells ⟨a, b, c, d⟩) 59).fr0⟩
    have hx := HV.out
    unfold silentP at hx
    simp only at hx
    clear cs
    split at hx <;> (rw [hx]; first | rfl | (simp; done) | (simp; omega))
set_option maxRecDepth 100000 in
set_option maxHeartbeats 4000000 in
theorem d_wait (p : Peer) (hp : p.ok) (w : World) : Calls Try.prog 21 #[p.val] w (fun e w' => e = .returned (.int .i64 (waitP p)) ∧ Mem w [] w' []) := by
  have O : Mem w [] w [] := Mem.begin
  obtain ⟨v, hv⟩ : ∃ v, v = waitP p := ⟨_, rfl⟩
  rw [← hv]
  have hq : p.mean.tdiv 8 = p.mean / 8 := by rw [Int.tdiv_eq_ediv_of_nonneg hp.mean.1]
  have hw0 : IntKind.i64.wrap (p.mean / 8) = p.mean / 8 := by have := hp.mean; simp [IntKind.wrap, IntKind.signed, IntKind.bits]; omega
  have hw : IntKind.i64.wrap (p.mean / 8 + p.margin) = p.mean / 8 + p.margin := by have := hp.mean; have := hp.margin; simp [IntKind.wrap, IntKind.signed, IntKind.bits]; omega
  have HV := Lib.hid hv
  clear hv
  obtain ⟨a, b, c, d⟩ := p
  have HP := Lib.hid hp
  clear hp
  simp only at hw hw0 hq
  simp only [Peer.val]
  go_enter Try.func21, Try.ntmps21
  have cs := O.facts
  simp only [factsP, cellsP, roomP, foots_cons, foots_nil, foots_append, foot_pt, ptb, ptb_mapA, foot_mapA, factsP_mapA, foot_bun, List.append_nil, List.nil_append, List.cons_append, List.nodup_cons, List.nodup_nil, List.mem_cons, List.not_mem_nil, List.mem_singleton, List.forall_mem_cons, not_or, not_false_eq_true, and_true, true_and, or_false, false_or, forall_eq_or_imp, forall_eq, implies_true, Nat.zero_add, Nat.reduceAdd, and_assoc] at cs
  go_wp2_with fail
  all_goals
    go_ret
    refine ⟨?_, (O.alloc (Peer.cells ⟨a, b, c, d⟩) 59).fr0⟩
    have hx := HV.out
    unfold waitP at hx
    simp only at hx
    clear cs
    repeat' split at hx
    all_goals (rw [hx]; first | rfl | (simp; done) | (simp; omega) | (exfalso; omega) | (exfalso; split at *; omega; omega))
set_option maxRecDepth 100000 in
set_option maxHeartbeats 4000000 in
theorem d_bad (p : Peer) (hp : p.ok) (now : Int) (hm : 0 ≤ now) (hn : now ≤ 9223372036854775807) (w : World) : Calls Try.prog 19 #[p.val, .int .i64 now] w (fun e w' => e = .returned (.bool (badP p now)) ∧ Mem w [] w' []) := by
  have O : Mem w [] w [] := Mem.begin
  have CS := Lib.hid (fun W => d_silent p hp now ⟨by omega, hn⟩ hm W)
  have CW := Lib.hid (fun W => d_wait p hp W)
  obtain ⟨v, hv⟩ : ∃ v, v = badP p now := ⟨_, rfl⟩
  rw [← hv]
  unfold badP at hv
  generalize silentP p now = s at CS hv
  generalize waitP p = x at CW hv
  clear hm hn hp
  obtain ⟨a, b, c, d⟩ := p
  simp only [Peer.val] at CS CW ⊢
  have HV := Lib.hid hv
  clear hv
  go_enter Try.func19, Try.ntmps19
  have cs := O.facts
  simp only [factsP, cellsP, roomP, foots_cons, foots_nil, foots_append, foot_pt, ptb, ptb_mapA, foot_mapA, factsP_mapA, foot_bun, List.append_nil, List.nil_append, List.cons_append, List.nodup_cons, List.nodup_nil, List.mem_cons, List.not_mem_nil, List.mem_singleton, List.forall_mem_cons, not_or, not_false_eq_true, and_true, true_and, or_false, false_or, forall_eq_or_imp, forall_eq, implies_true, Nat.zero_add, Nat.reduceAdd, and_assoc] at cs
  go_upto_region 1 with fail
  first | apply Mem.atCall | apply Mem.atCode | apply Mem.atList
  case h => repeat' (first | (with_reducible exact O) | (with_reducible apply Mem.drew) | (with_reducible apply Mem.drewN) | (with_reducible apply Mem.ext) | (with_reducible apply Mem.alloc) | (with_reducible apply Mem.setCell) | (simp only [ptb, ptb_upd, foots_cons, List.mem_cons, World.size_alloc, size_ext, World.size_setCell, true_or, or_true, eq_self_iff_true]))
  case' k =>
    intro w1 O'
    (try clear O)
    have O := O'
    clear O'
    (first | simp only [sel, rst, List.cons_append, List.nil_append, World.size_alloc, size_ext, World.size_setCell, size_setMap, World.size_drew, size_drewN, upd, List.set_cons_zero, List.set_cons_succ, if_true, if_false, reduceIte, not_false_eq_true, ne_lt0, ne_lt1, ne_lt2, ne_lt3, ne_lt4, cs] at O | simp only [sel, rst, List.cons_append, List.nil_append, World.size_alloc, size_ext, World.size_setCell, size_setMap, World.size_drew, size_drewN, upd, List.set_cons_zero, List.set_cons_succ, if_true, if_false, reduceIte, not_false_eq_true, ne_lt0, ne_lt1, ne_lt2, ne_lt3, ne_lt4] at O | skip)
    (try clear cs)
    (try clear v1)
    (try clear v2)
    (try clear v3)
  apply region_quiet_mem (by kernel_rfl) (by kernel_rfl)
  case O => repeat' (first | (with_reducible exact O) | (with_reducible apply Mem.drew) | (with_reducible apply Mem.drewN) | (with_reducible apply Mem.ext) | (with_reducible apply Mem.alloc) | (with_reducible apply Mem.setCell) | (simp only [ptb, ptb_upd, foots_cons, List.mem_cons, World.size_alloc, size_ext, World.size_setCell, true_or, or_true, eq_self_iff_true]))
  case' h =>
    intro w2 O'
    (try clear O)
    have O := O'
    clear O'
    (first | simp only [sel, rst, List.cons_append, List.nil_append, World.size_alloc, size_ext, World.size_setCell, size_setMap, World.size_drew, size_drewN, upd, List.set_cons_zero, List.set_cons_succ, if_true, if_false, reduceIte, not_false_eq_true, ne_lt0, ne_lt1, ne_lt2, ne_lt3, ne_lt4, cs] at O | simp only [sel, rst, List.cons_append, List.nil_append, World.size_alloc, size_ext, World.size_setCell, size_setMap, World.size_drew, size_drewN, upd, List.set_cons_zero, List.set_cons_succ, if_true, if_false, reduceIte, not_false_eq_true, ne_lt0, ne_lt1, ne_lt2, ne_lt3, ne_lt4] at O | skip)
    (try clear cs)
    (try clear v1)
    (try clear v2)
    (try clear v3)
  have cs := O.facts
  simp only [factsP, cellsP, roomP, foots_cons, foots_nil, foots_append, foot_pt, ptb, ptb_mapA, foot_mapA, factsP_mapA, foot_bun, List.append_nil, List.nil_append, List.cons_append, List.nodup_cons, List.nodup_nil, List.mem_cons, List.not_mem_nil, List.mem_singleton, List.forall_mem_cons, not_or, not_false_eq_true, and_true, true_and, or_false, false_or, forall_eq_or_imp, forall_eq, implies_true, Nat.zero_add, Nat.reduceAdd, and_assoc] at cs
  repeat (go_big_quiet_step ((first | (go_at_call 20; with_reducible exact quietMem (CS.out _)) | (go_at_call 21; with_reducible exact quietMem (CW.out _)))))
  refine wpQuiet_nil ?_
  intro w3 hq
  (try clear cs)
  (try clear v1)
  (try clear v2)
  (try clear v3)
  replace O := O.qext hq
  clear hq
  have cs := O.facts
  simp only [factsP, cellsP, roomP, foots_cons, foots_nil, foots_append, foot_pt, ptb, ptb_mapA, foot_mapA, factsP_mapA, foot_bun, List.append_nil, List.nil_append, List.cons_append, List.nodup_cons, List.nodup_nil, List.mem_cons, List.not_mem_nil, List.mem_singleton, List.forall_mem_cons, not_or, not_false_eq_true, and_true, true_and, or_false, false_or, forall_eq_or_imp, forall_eq, implies_true, Nat.zero_add, Nat.reduceAdd, and_assoc] at cs
  go_wp2_with fail
  go_ret
  exact ⟨by simp [HV.out], O.fr0⟩
end Go.Proofs.Ytobiodbdnpcanaa
