/- WALKS: the document's learner (tontineref11), of any chapter; it and the program's learner answer alike. -/
import Derived.Test.YtplliabmnhigbaaLrn19
import Derived.Test.YtplliabmnhigbaaArgs
import Derived.Test.YtplliabmnhigbaaElt
set_option linter.unusedVariables false
set_option linter.unusedSimpArgs false
namespace Go.Proofs.Ytplliabmnhigbaa
open Go.RowKit Go.Tk
theorem nodup_le {α : Type} [DecidableEq α] : ∀ (ks l : List α), ks.Nodup → (∀ x ∈ ks, x ∈ l) → ks.length ≤ l.length
  | [], l, _, _ => by simp
  | k :: ks, l, hn, hs => by
    have hk : k ∈ l := hs k (by simp)
    have hn' := List.nodup_cons.1 hn
    have := nodup_le ks (l.erase k) hn'.2 (fun x hx => (List.mem_erase_of_ne (fun (e : x = k) => hn'.1 (e ▸ hx))).2 (hs x (by simp [hx])))
    rw [List.length_erase_of_mem hk] at this
    have := List.length_pos_of_mem hk
    simp only [List.length_cons]
    omega
theorem natKeys {m : List (Int × Said)} (hn : (keysOf m).Nodup) (h0 : ∀ q ∈ m, 0 ≤ q.1) : (m.map (fun q => q.1.toNat)).Nodup := by
  have hm : m.map (fun q => q.1.toNat) = (keysOf m).map Int.toNat := by simp [keysOf, List.map_map, Function.comp_def]
  rw [hm]
  have h0' : ∀ k ∈ keysOf m, 0 ≤ k := by
    intro k hk
    obtain ⟨q, hq, rfl⟩ := List.mem_map.1 hk
    exact h0 q hq
  generalize keysOf m = ks at hn h0'
  clear hm h0 m
  induction ks with
  | nil => simp
  | cons k ks ih =>
    have hn' := List.nodup_cons.1 hn
    rw [List.map_cons, List.nodup_cons]
    refine ⟨fun hk => ?_, ih hn'.2 (fun x hx => h0' x (by simp [hx]))⟩
    obtain ⟨x, hx, e⟩ := List.mem_map.1 hk
    have h1 := h0' k (by simp)
    have h2 := h0' x (by simp [hx])
    obtain rfl : x = k := by omega
    exact hn'.1 hx
set_option maxRecDepth 100000 in
set_option maxHeartbeats 4000000 in
theorem ref_Less11 (a b : Ballot) (w : World) : Calls Try.prog 67 #[a.val, b.val] w (fun e w' => e = .returned (.bool (less a b)) ∧ Mem w [] w' []) := by
  obtain ⟨ar, an⟩ := a
  obtain ⟨br, bn⟩ := b
  obtain ⟨v, hv⟩ : ∃ v, v = less ⟨ar, an⟩ ⟨br, bn⟩ := ⟨_, rfl⟩
  rw [← hv]
  have HV := Lib.hid hv
  clear hv
  simp only [Ballot.val]
  have O : Mem w [] w [] := Mem.begin
  go_enter Try.func67, Try.ntmps67
  by_cases h1 : ar < br
  · go_wp2
    go_ret
    refine ⟨?_, ?_⟩
    · rw [HV.out]; simp [less, h1]
    · apply Mem.to []
      · repeat' (first | (with_reducible exact O) | (with_reducible apply Mem.drew) | (with_reducible apply Mem.drewN) | (with_reducible apply Mem.ext) | (with_reducible apply Mem.alloc) | (with_reducible apply Mem.setCell) | (simp only [ptb, ptb_upd, foots_cons, List.mem_cons, World.size_alloc, size_ext, World.size_setCell, true_or, or_true, eq_self_iff_true, ptb_listA]))
      · first | with_reducible rfl | (simp only [sel, rst, List.cons_append, List.nil_append, World.size_alloc, size_ext, World.size_setCell, size_setMap, World.size_drew, size_drewN, upd, List.set_cons_zero, List.set_cons_succ, if_true, if_false, reduceIte, not_false_eq_true, ne_lt0, ne_lt1, ne_lt2, ne_lt3, ne_lt4, cs]; done) | (simp only [sel, rst, List.cons_append, List.nil_append, World.size_alloc, size_ext, World.size_setCell, size_setMap, World.size_drew, size_drewN, upd, List.set_cons_zero, List.set_cons_succ, if_true, if_false, reduceIte, not_false_eq_true, ne_lt0, ne_lt1, ne_lt2, ne_lt3, ne_lt4]; done) | (simp only [sel, rst, List.cons_append, List.nil_append, World.size_alloc, size_ext, World.size_setCell, size_setMap, World.size_drew, size_drewN, upd, List.set_cons_zero, List.set_cons_succ, if_true, if_false, reduceIte, not_false_eq_true, ne_lt0, ne_lt1, ne_lt2, ne_lt3, ne_lt4, cs]; rfl) | (simp only [sel, rst, List.cons_append, List.nil_append, World.size_alloc, size_ext, World.size_setCell, size_setMap, World.size_drew, size_drewN, upd, List.set_cons_zero, List.set_cons_succ, if_true, if_false, reduceIte, not_false_eq_true, ne_lt0, ne_lt1, ne_lt2, ne_lt3, ne_lt4]; rfl)
  · by_cases h2 : ar = br
    · subst h2
      go_wp2
      go_ret
      refine ⟨?_, ?_⟩
      · rw [HV.out]; simp [less]
      · apply Mem.to []
        · repeat' (first | (with_reducible exact O) | (with_reducible apply Mem.drew) | (with_reducible apply Mem.drewN) | (with_reducible apply Mem.ext) | (with_reducible apply Mem.alloc) | (with_reducible apply Mem.setCell) | (simp only [ptb, ptb_upd, foots_cons, List.mem_cons, World.size_alloc, size_ext, World.size_setCell, true_or, or_true, eq_self_iff_true, ptb_listA]))
        · first | with_reducible rfl | (simp only [sel, rst, List.cons_append, List.nil_append, World.size_alloc, size_ext, World.size_setCell, size_setMap, World.size_drew, size_drewN, upd, List.set_cons_zero, List.set_cons_succ, if_true, if_false, reduceIte, not_false_eq_true, ne_lt0, ne_lt1, ne_lt2, ne_lt3, ne_lt4, cs]; done) | (simp only [sel, rst, List.cons_append, List.nil_append, World.size_alloc, size_ext, World.size_setCell, size_setMap, World.size_drew, size_drewN, upd, List.set_cons_zero, List.set_cons_succ, if_true, if_false, reduceIte, not_false_eq_true, ne_lt0, ne_lt1, ne_lt2, ne_lt3, ne_lt4]; done) | (simp only [sel, rst, List.cons_append, List.nil_append, World.size_alloc, size_ext, World.size_setCell, size_setMap, World.size_drew, size_drewN, upd, List.set_cons_zero, List.set_cons_succ, if_true, if_false, reduceIte, not_false_eq_true, ne_lt0, ne_lt1, ne_lt2, ne_lt3, ne_lt4, cs]; rfl) | (simp only [sel, rst, List.cons_append, List.nil_append, World.size_alloc, size_ext, World.size_setCell, size_setMap, World.size_drew, size_drewN, upd, List.set_cons_zero, List.set_cons_succ, if_true, if_false, reduceIte, not_false_eq_true, ne_lt0, ne_lt1, ne_lt2, ne_lt3, ne_lt4]; rfl)
    · go_wp2
      go_ret
      refine ⟨?_, ?_⟩
      · rw [HV.out]; simp [less, h1, h2]
      · apply Mem.to []
        · repeat' (first | (with_reducible exact O) | (with_reducible apply Mem.drew) | (with_reducible apply Mem.drewN) | (with_reducible apply Mem.ext) | (with_reducible apply Mem.alloc) | (with_reducible apply Mem.setCell) | (simp only [ptb, ptb_upd, foots_cons, List.mem_cons, World.size_alloc, size_ext, World.size_setCell, true_or, or_true, eq_self_iff_true, ptb_listA]))
        · first | with_reducible rfl | (simp only [sel, rst, List.cons_append, List.nil_append, World.size_alloc, size_ext, World.size_setCell, size_setMap, World.size_drew, size_drewN, upd, List.set_cons_zero, List.set_cons_succ, if_true, if_false, reduceIte, not_false_eq_true, ne_lt0, ne_lt1, ne_lt2, ne_lt3, ne_lt4, cs]; done) | (simp only [sel, rst, List.cons_append, List.nil_append, World.size_alloc, size_ext, World.size_setCell, size_setMap, World.size_drew, size_drewN, upd, List.set_cons_zero, List.set_cons_succ, if_true, if_false, reduceIte, not_false_eq_true, ne_lt0, ne_lt1, ne_lt2, ne_lt3, ne_lt4]; done) | (simp only [sel, rst, List.cons_append, List.nil_append, World.size_alloc, size_ext, World.size_setCell, size_setMap, World.size_drew, size_drewN, upd, List.set_cons_zero, List.set_cons_succ, if_true, if_false, reduceIte, not_false_eq_true, ne_lt0, ne_lt1, ne_lt2, ne_lt3, ne_lt4, cs]; rfl) | (simp only [sel, rst, List.cons_append, List.nil_append, World.size_alloc, size_ext, World.size_setCell, size_setMap, World.size_drew, size_drewN, upd, List.set_cons_zero, List.set_cons_succ, if_true, if_false, reduceIte, not_false_eq_true, ne_lt0, ne_lt1, ne_lt2, ne_lt3, ne_lt4]; rfl)
structure SaidR where
  is : Bool
  b : Ballot
  v : ByteArray
def saidCells (s : SaidR) : List Value := [.bool s.is, .int .u32 s.b.r, .int .u8 s.b.n, .string s.v]
def noSaid : SaidR := ⟨false, noB, .empty⟩
theorem saidTy : ElTy Try.prog 123 154 4 saidCells noSaid := ⟨Try.underlying123, by kernel_rfl, by kernel_rfl, by omega, fun _ => rfl, fun a u h => by simp [saidCells] at h; rcases h with rfl | rfl | rfl | rfl <;> rfl⟩
structure RL where
  l : List SaidR
  is : Bool
  chosen : ByteArray
def rlL (lb : Nat) (A : Option Addr) (c : Nat) (r : RL) : List Asn := [.pt lb [.slice A r.l.length c, .bool r.is, .string r.chosen] 125, listA 154 4 saidCells A c r.l]
def rlA (lb : Nat) (A : Option Addr) (c : Nat) (r : RL) : Asn := bun (rlL lb A c r)
def sameR (b : Ballot) (v : ByteArray) (s : SaidR) : Bool := s.is && decide (s.b.r = b.r) && decide (s.b.n = b.n) && decide (s.v.toList = v.toList)
def countR (b : Ballot) (v : ByteArray) (l : List SaidR) : Nat := (l.filter (sameR b v)).length
def raccepted (r : RL) (f : Nat) (b : Ballot) (v : ByteArray) : ByteArray × Bool × RL :=
  let s := r.l.getD f noSaid
  if s.is = true ∧ less s.b b = false then (.empty, false, r) else
  let l2 := r.l.set f ⟨true, b, v⟩
  if 2 * (countR b v l2 : Int) ≤ r.l.length then (.empty, false, ⟨l2, r.is, r.chosen⟩) else (v, true, ⟨l2, true, v⟩)
set_option maxRecDepth 100000 in
set_option maxHeartbeats 4000000 in
theorem rl_New (n : Nat) (w : World) (h : 1 ≤ n ∧ n ≤ 9) : Calls Try.prog 44 #[.int .i64 n] w (fun e w' => ∃ lb A c, e = .returned (.pointer (some ⟨lb, 0, none⟩)) ∧ Mem w [] w' (rlL lb A c ⟨List.replicate n noSaid, false, .empty⟩)) := by
  have O : Mem w [] w [] := Mem.begin
  obtain ⟨o, hmk, hM⟩ := saidTy.made w n (by omega)
  go_enter Try.func44, Try.ntmps44
  go_wp2
  go_ret
  refine ⟨w.heap.size + 1, some ⟨w.heap.size, 0, none⟩, n, rfl, ?_⟩
  have O2 := (hM _ _ _ O).alloc [.slice (some ⟨w.heap.size, 0, none⟩) n n, .bool false, .string .empty] 125
  rw [World.size_alloc] at O2
  simp only [rlL, List.length_replicate]
  exact O2
set_option maxRecDepth 100000 in
set_option maxHeartbeats 4000000 in
theorem rl_Accepted_no (w : World) (lb : Nat) (A : Option Addr) (c : Nat) (r : RL) (f : Int) (b : Ballot) (v : ByteArray) (h : Pre w (rlL lb A c r)) (hn : r.is = true ∨ f < 0 ∨ (r.l.length : Int) ≤ f) (hl : r.l.length ≤ 9) :
    Calls Try.prog 48 #[.pointer (some ⟨lb, 0, none⟩), .int .i64 f, b.val, .string v] w (fun e w' => e = .returned (.tuple #[.string .empty, .bool false]) ∧ Mem w [] w' []) := by
  have H := Lib.hid h
  clear h
  obtain ⟨l, is, chosen⟩ := r
  simp only at hn hl
  obtain ⟨br, bn⟩ := b
  simp only [Ballot.val]
  have O : Mem w [] w [] := Mem.begin
  have hc : is = true ∨ (is = false ∧ f < 0) ∨ (is = false ∧ ¬ f < 0 ∧ (l.length : Int) ≤ f) := by
    cases is <;> simp at hn ⊢
    omega
  clear hn
  skip
  rcases hc with rfl | ⟨rfl, h1⟩ | ⟨rfl, h1, h2⟩
  all_goals
    go_enter Try.func48, Try.ntmps48
    have cs := O.facts
    try simp only [factsP, cellsP, roomP, foots_cons, foots_nil, foots_append, foot_pt, ptb, ptb_mapA, foot_mapA, factsP_mapA, foot_bun, List.append_nil, List.nil_append, List.cons_append, List.nodup_cons, List.nodup_nil, List.mem_cons, List.not_mem_nil, List.mem_singleton, List.forall_mem_cons, not_or, not_false_eq_true, and_true, true_and, or_false, false_or, forall_eq_or_imp, forall_eq, implies_true, Nat.zero_add, Nat.reduceAdd, and_assoc, ptb_listA, factsP_listA, rlL, saidCells, Nat.mul_one] at cs
    have v1 := (H.out.view O.fr).facts
    try simp only [cellsQ, roomP, and_assoc, and_true, true_and, Nat.add_zero, Nat.zero_add, Nat.reduceAdd, factsP, cellsP, roomP, foots_cons, foots_nil, foots_append, foot_pt, ptb, ptb_mapA, foot_mapA, factsP_mapA, foot_bun, List.append_nil, List.nil_append, List.cons_append, List.nodup_cons, List.nodup_nil, List.mem_cons, List.not_mem_nil, List.mem_singleton, List.forall_mem_cons, not_or, not_false_eq_true, and_true, true_and, or_false, false_or, forall_eq_or_imp, forall_eq, implies_true, Nat.zero_add, Nat.reduceAdd, and_assoc, ptb_listA, factsP_listA, rlL, saidCells, Nat.mul_one] at v1
    go_wp2_with fail
    go_ret2
    refine ⟨rfl, ?_⟩
    apply Mem.to []
    · repeat' (first | (with_reducible exact O) | (with_reducible apply Mem.drew) | (with_reducible apply Mem.drewN) | (with_reducible apply Mem.ext) | (with_reducible apply Mem.alloc) | (with_reducible apply Mem.setCell) | (simp only [ptb, ptb_upd, foots_cons, List.mem_cons, World.size_alloc, size_ext, World.size_setCell, true_or, or_true, eq_self_iff_true, ptb_listA]))
    · first | with_reducible rfl | (simp only [sel, rst, List.cons_append, List.nil_append, World.size_alloc, size_ext, World.size_setCell, size_setMap, World.size_drew, size_drewN, upd, List.set_cons_zero, List.set_cons_succ, if_true, if_false, reduceIte, not_false_eq_true, ne_lt0, ne_lt1, ne_lt2, ne_lt3, ne_lt4, cs]; done) | (simp only [sel, rst, List.cons_append, List.nil_append, World.size_alloc, size_ext, World.size_setCell, size_setMap, World.size_drew, size_drewN, upd, List.set_cons_zero, List.set_cons_succ, if_true, if_false, reduceIte, not_false_eq_true, ne_lt0, ne_lt1, ne_lt2, ne_lt3, ne_lt4]; done) | (simp only [sel, rst, List.cons_append, List.nil_append, World.size_alloc, size_ext, World.size_setCell, size_setMap, World.size_drew, size_drewN, upd, List.set_cons_zero, List.set_cons_succ, if_true, if_false, reduceIte, not_false_eq_true, ne_lt0, ne_lt1, ne_lt2, ne_lt3, ne_lt4, cs]; rfl) | (simp only [sel, rst, List.cons_append, List.nil_append, World.size_alloc, size_ext, World.size_setCell, size_setMap, World.size_drew, size_drewN, upd, List.set_cons_zero, List.set_cons_succ, if_true, if_false, reduceIte, not_false_eq_true, ne_lt0, ne_lt1, ne_lt2, ne_lt3, ne_lt4]; rfl)
set_option maxRecDepth 100000 in
set_option maxHeartbeats 16000000 in
theorem rl_Accepted (w : World) (lb : Nat) (A : Option Addr) (c : Nat) (r : RL) (f : Nat) (b : Ballot) (v : ByteArray) (h : Pre w (rlL lb A c r)) (h0 : r.is = false) (hf : f < r.l.length) (hl : r.l.length ≤ 9) :
    Calls Try.prog 48 #[.pointer (some ⟨lb, 0, none⟩), .int .i64 f, b.val, .string v] w (fun e w' => e = .returned (.tuple #[.string (raccepted r f b v).1, .bool (raccepted r f b v).2.1]) ∧ Mem w (foots (rlL lb A c r)) w' (rlL lb A c (raccepted r f b v).2.2)) := by
  obtain ⟨fp, hfp⟩ : ∃ F, F = foots (rlL lb A c r) := ⟨_, rfl⟩
  have O : Mem w fp w (rlL lb A c r) := by rw [hfp]; exact h
  rw [← hfp]
  clear hfp h
  obtain ⟨l, is, chosen⟩ := r
  simp only at h0 hf hl
  subst h0
  obtain ⟨r2, hr⟩ : ∃ r, r = raccepted ⟨l, false, chosen⟩ f b v := ⟨_, rfl⟩
  rw [← hr]
  obtain ⟨⟨si, ⟨sr, sn⟩, sv⟩, hs⟩ : ∃ s, l[f]? = some s := ⟨_, List.getElem?_eq_getElem hf⟩
  have hgd : l.getD f noSaid = ⟨si, ⟨sr, sn⟩, sv⟩ := by rw [List.getD_eq_getElem?_getD, hs]; rfl
  simp only [raccepted, hgd] at hr
  have HR := Lib.hid hr
  have HS := Lib.hid hs
  clear hgd hr hs
  obtain ⟨br, bn⟩ := b
  have LS := Lib.hid (fun W => ref_Less11 ⟨sr, sn⟩ ⟨br, bn⟩ W)
  generalize hls : less ⟨sr, sn⟩ ⟨br, bn⟩ = ls at LS HR
  clear hls
  simp only [Ballot.val] at LS ⊢
  simp only [rlL] at O
  obtain ⟨g, rfl, _⟩ := listA_get (cs := saidCells) (fun _ => rfl) (O.hold (listA 154 4 saidCells A c l) (by simp)) HS.out
  have hfi : (f : Int) < l.length := by omega
  skip
  go_enter Try.func48, Try.ntmps48
  have cs := O.facts
  try simp only [factsP, cellsP, roomP, foots_cons, foots_nil, foots_append, foot_pt, ptb, ptb_mapA, foot_mapA, factsP_mapA, foot_bun, List.append_nil, List.nil_append, List.cons_append, List.nodup_cons, List.nodup_nil, List.mem_cons, List.not_mem_nil, List.mem_singleton, List.forall_mem_cons, not_or, not_false_eq_true, and_true, true_and, or_false, false_or, forall_eq_or_imp, forall_eq, implies_true, Nat.zero_add, Nat.reduceAdd, and_assoc, ptb_listA, factsP_listA, rlL, saidCells, Nat.mul_one] at cs
  have v1 := (listA_at (cs := saidCells) (fun _ => rfl) (O.hold (listA 154 4 saidCells (some ⟨g, 0, none⟩) c l) (by simp)) HS.out)
  try simp only [cellsQ, roomP, and_assoc, and_true, true_and, Nat.add_zero, Nat.zero_add, Nat.reduceAdd, factsP, cellsP, roomP, foots_cons, foots_nil, foots_append, foot_pt, ptb, ptb_mapA, foot_mapA, factsP_mapA, foot_bun, List.append_nil, List.nil_append, List.cons_append, List.nodup_cons, List.nodup_nil, List.mem_cons, List.not_mem_nil, List.mem_singleton, List.forall_mem_cons, not_or, not_false_eq_true, and_true, true_and, or_false, false_or, forall_eq_or_imp, forall_eq, implies_true, Nat.zero_add, Nat.reduceAdd, and_assoc, ptb_listA, factsP_listA, rlL, saidCells, Nat.mul_one] at v1
  go_wp2_with fail
  apply region_quiet_mem (by kernel_rfl) (by kernel_rfl)
  case O => repeat' (first | (with_reducible exact O) | (with_reducible apply Mem.drew) | (with_reducible apply Mem.drewN) | (with_reducible apply Mem.ext) | (with_reducible apply Mem.alloc) | (with_reducible apply Mem.setCell) | (simp only [ptb, ptb_upd, foots_cons, List.mem_cons, World.size_alloc, size_ext, World.size_setCell, true_or, or_true, eq_self_iff_true, ptb_listA]))
  case' h =>
    intro w1 O'
    (try clear O)
    have O := O'
    clear O'
    (first | simp only [sel, rst, List.cons_append, List.nil_append, World.size_alloc, size_ext, World.size_setCell, size_setMap, World.size_drew, size_drewN, upd, List.set_cons_zero, List.set_cons_succ, if_true, if_false, reduceIte, not_false_eq_true, ne_lt0, ne_lt1, ne_lt2, ne_lt3, ne_lt4, cs] at O | simp only [sel, rst, List.cons_append, List.nil_append, World.size_alloc, size_ext, World.size_setCell, size_setMap, World.size_drew, size_drewN, upd, List.set_cons_zero, List.set_cons_succ, if_true, if_false, reduceIte, not_false_eq_true, ne_lt0, ne_lt1, ne_lt2, ne_lt3, ne_lt4] at O | skip)
    (try clear cs)
    (try clear v1)
    (try clear v2)
    (try clear v3)
  have cs := O.facts
  try simp only [factsP, cellsP, roomP, foots_cons, foots_nil, foots_append, foot_pt, ptb, ptb_mapA, foot_mapA, factsP_mapA, foot_bun, List.append_nil, List.nil_append, List.cons_append, List.nodup_cons, List.nodup_nil, List.mem_cons, List.not_mem_nil, List.mem_singleton, List.forall_mem_cons, not_or, not_false_eq_true, and_true, true_and, or_false, false_or, forall_eq_or_imp, forall_eq, implies_true, Nat.zero_add, Nat.reduceAdd, and_assoc, ptb_listA, factsP_listA, rlL, saidCells, Nat.mul_one] at cs
  have v1 := (listA_at (cs := saidCells) (fun _ => rfl) (O.hold (listA 154 4 saidCells (some ⟨g, 0, none⟩) c l) (by simp)) HS.out)
  try simp only [cellsQ, roomP, and_assoc, and_true, true_and, Nat.add_zero, Nat.zero_add, Nat.reduceAdd, factsP, cellsP, roomP, foots_cons, foots_nil, foots_append, foot_pt, ptb, ptb_mapA, foot_mapA, factsP_mapA, foot_bun, List.append_nil, List.nil_append, List.cons_append, List.nodup_cons, List.nodup_nil, List.mem_cons, List.not_mem_nil, List.mem_singleton, List.forall_mem_cons, not_or, not_false_eq_true, and_true, true_and, or_false, false_or, forall_eq_or_imp, forall_eq, implies_true, Nat.zero_add, Nat.reduceAdd, and_assoc, ptb_listA, factsP_listA, rlL, saidCells, Nat.mul_one] at v1
  repeat (go_big_quiet_step ((first | (go_at_call 67; exact quietMem (LS.out _)))))
  refine wpQuiet_nil ?_
  intro w2 hq
  (try clear cs)
  (try clear v1)
  (try clear v2)
  (try clear v3)
  replace O := O.qext hq
  clear hq
  have cs := O.facts
  try simp only [factsP, cellsP, roomP, foots_cons, foots_nil, foots_append, foot_pt, ptb, ptb_mapA, foot_mapA, factsP_mapA, foot_bun, List.append_nil, List.nil_append, List.cons_append, List.nodup_cons, List.nodup_nil, List.mem_cons, List.not_mem_nil, List.mem_singleton, List.forall_mem_cons, not_or, not_false_eq_true, and_true, true_and, or_false, false_or, forall_eq_or_imp, forall_eq, implies_true, Nat.zero_add, Nat.reduceAdd, and_assoc, ptb_listA, factsP_listA, rlL, saidCells, Nat.mul_one] at cs
  have v1 := (listA_at (cs := saidCells) (fun _ => rfl) (O.hold (listA 154 4 saidCells (some ⟨g, 0, none⟩) c l) (by simp)) HS.out)
  try simp only [cellsQ, roomP, and_assoc, and_true, true_and, Nat.add_zero, Nat.zero_add, Nat.reduceAdd, factsP, cellsP, roomP, foots_cons, foots_nil, foots_append, foot_pt, ptb, ptb_mapA, foot_mapA, factsP_mapA, foot_bun, List.append_nil, List.nil_append, List.cons_append, List.nodup_cons, List.nodup_nil, List.mem_cons, List.not_mem_nil, List.mem_singleton, List.forall_mem_cons, not_or, not_false_eq_true, and_true, true_and, or_false, false_or, forall_eq_or_imp, forall_eq, implies_true, Nat.zero_add, Nat.reduceAdd, and_assoc, ptb_listA, factsP_listA, rlL, saidCells, Nat.mul_one] at v1
  go_upto_region 4 with fail
  by_cases hst : si = true ∧ ls = false
  · obtain ⟨rfl, rfl⟩ := hst
    have hr := HR.out
    simp only [and_self, if_true] at hr
    subst hr
    have cs := O.facts
    try simp only [factsP, cellsP, roomP, foots_cons, foots_nil, foots_append, foot_pt, ptb, ptb_mapA, foot_mapA, factsP_mapA, foot_bun, List.append_nil, List.nil_append, List.cons_append, List.nodup_cons, List.nodup_nil, List.mem_cons, List.not_mem_nil, List.mem_singleton, List.forall_mem_cons, not_or, not_false_eq_true, and_true, true_and, or_false, false_or, forall_eq_or_imp, forall_eq, implies_true, Nat.zero_add, Nat.reduceAdd, and_assoc, ptb_listA, factsP_listA, rlL, saidCells, Nat.mul_one] at cs
    have v1 := (listA_at (cs := saidCells) (fun _ => rfl) (O.hold (listA 154 4 saidCells (some ⟨g, 0, none⟩) c l) (by simp)) HS.out)
    try simp only [cellsQ, roomP, and_assoc, and_true, true_and, Nat.add_zero, Nat.zero_add, Nat.reduceAdd, factsP, cellsP, roomP, foots_cons, foots_nil, foots_append, foot_pt, ptb, ptb_mapA, foot_mapA, factsP_mapA, foot_bun, List.append_nil, List.nil_append, List.cons_append, List.nodup_cons, List.nodup_nil, List.mem_cons, List.not_mem_nil, List.mem_singleton, List.forall_mem_cons, not_or, not_false_eq_true, and_true, true_and, or_false, false_or, forall_eq_or_imp, forall_eq, implies_true, Nat.zero_add, Nat.reduceAdd, and_assoc, ptb_listA, factsP_listA, rlL, saidCells, Nat.mul_one] at v1
    go_wp2_with fail
    go_ret2
    exact ⟨rfl, O.sel [false, true, true]⟩
  · have hr := HR.out
    rw [if_neg hst] at hr
    have HR2 := Lib.hid hr
    clear HR hr
    go_cut [51] (fun s51 wc => s51 = .bool false ∧ Mem w fp wc [.pt w.heap.size [.int .u32 br, .int .u8 bn] 47, .pt lb [.slice (some ⟨g, 0, none⟩) l.length c, .bool false, .string chosen] 125, listA 154 4 saidCells (some ⟨g, 0, none⟩) c l])
    case first =>
      cases si
      · have cs := O.facts
        try simp only [factsP, cellsP, roomP, foots_cons, foots_nil, foots_append, foot_pt, ptb, ptb_mapA, foot_mapA, factsP_mapA, foot_bun, List.append_nil, List.nil_append, List.cons_append, List.nodup_cons, List.nodup_nil, List.mem_cons, List.not_mem_nil, List.mem_singleton, List.forall_mem_cons, not_or, not_false_eq_true, and_true, true_and, or_false, false_or, forall_eq_or_imp, forall_eq, implies_true, Nat.zero_add, Nat.reduceAdd, and_assoc, ptb_listA, factsP_listA, rlL, saidCells, Nat.mul_one] at cs
        have v1 := (listA_at (cs := saidCells) (fun _ => rfl) (O.hold (listA 154 4 saidCells (some ⟨g, 0, none⟩) c l) (by simp)) HS.out)
        try simp only [cellsQ, roomP, and_assoc, and_true, true_and, Nat.add_zero, Nat.zero_add, Nat.reduceAdd, factsP, cellsP, roomP, foots_cons, foots_nil, foots_append, foot_pt, ptb, ptb_mapA, foot_mapA, factsP_mapA, foot_bun, List.append_nil, List.nil_append, List.cons_append, List.nodup_cons, List.nodup_nil, List.mem_cons, List.not_mem_nil, List.mem_singleton, List.forall_mem_cons, not_or, not_false_eq_true, and_true, true_and, or_false, false_or, forall_eq_or_imp, forall_eq, implies_true, Nat.zero_add, Nat.reduceAdd, and_assoc, ptb_listA, factsP_listA, rlL, saidCells, Nat.mul_one] at v1
        go_wp2_with fail
        go_meet
        exact ⟨rfl, O⟩
      · have hl3 : ls = true := by simpa using hst
        subst hl3
        have cs := O.facts
        try simp only [factsP, cellsP, roomP, foots_cons, foots_nil, foots_append, foot_pt, ptb, ptb_mapA, foot_mapA, factsP_mapA, foot_bun, List.append_nil, List.nil_append, List.cons_append, List.nodup_cons, List.nodup_nil, List.mem_cons, List.not_mem_nil, List.mem_singleton, List.forall_mem_cons, not_or, not_false_eq_true, and_true, true_and, or_false, false_or, forall_eq_or_imp, forall_eq, implies_true, Nat.zero_add, Nat.reduceAdd, and_assoc, ptb_listA, factsP_listA, rlL, saidCells, Nat.mul_one] at cs
        have v1 := (listA_at (cs := saidCells) (fun _ => rfl) (O.hold (listA 154 4 saidCells (some ⟨g, 0, none⟩) c l) (by simp)) HS.out)
        try simp only [cellsQ, roomP, and_assoc, and_true, true_and, Nat.add_zero, Nat.zero_add, Nat.reduceAdd, factsP, cellsP, roomP, foots_cons, foots_nil, foots_append, foot_pt, ptb, ptb_mapA, foot_mapA, factsP_mapA, foot_bun, List.append_nil, List.nil_append, List.cons_append, List.nodup_cons, List.nodup_nil, List.mem_cons, List.not_mem_nil, List.mem_singleton, List.forall_mem_cons, not_or, not_false_eq_true, and_true, true_and, or_false, false_or, forall_eq_or_imp, forall_eq, implies_true, Nat.zero_add, Nat.reduceAdd, and_assoc, ptb_listA, factsP_listA, rlL, saidCells, Nat.mul_one] at v1
        go_wp2_with fail
        go_meet
        exact ⟨rfl, O⟩
    case rest =>
      clear O hst
      obtain ⟨rfl, O⟩ := hcut
      have cs := O.facts
      try simp only [factsP, cellsP, roomP, foots_cons, foots_nil, foots_append, foot_pt, ptb, ptb_mapA, foot_mapA, factsP_mapA, foot_bun, List.append_nil, List.nil_append, List.cons_append, List.nodup_cons, List.nodup_nil, List.mem_cons, List.not_mem_nil, List.mem_singleton, List.forall_mem_cons, not_or, not_false_eq_true, and_true, true_and, or_false, false_or, forall_eq_or_imp, forall_eq, implies_true, Nat.zero_add, Nat.reduceAdd, and_assoc, ptb_listA, factsP_listA, rlL, saidCells, Nat.mul_one] at cs
      have v1 := (listA_at (cs := saidCells) (fun _ => rfl) (O.hold (listA 154 4 saidCells (some ⟨g, 0, none⟩) c l) (by simp)) HS.out)
      try simp only [cellsQ, roomP, and_assoc, and_true, true_and, Nat.add_zero, Nat.zero_add, Nat.reduceAdd, factsP, cellsP, roomP, foots_cons, foots_nil, foots_append, foot_pt, ptb, ptb_mapA, foot_mapA, factsP_mapA, foot_bun, List.append_nil, List.nil_append, List.cons_append, List.nodup_cons, List.nodup_nil, List.mem_cons, List.not_mem_nil, List.mem_singleton, List.forall_mem_cons, not_or, not_false_eq_true, and_true, true_and, or_false, false_or, forall_eq_or_imp, forall_eq, implies_true, Nat.zero_add, Nat.reduceAdd, and_assoc, ptb_listA, factsP_listA, rlL, saidCells, Nat.mul_one] at v1
      go_upto_region 6 with fail
      apply region_last_mem (by kernel_rfl) (by kernel_rfl)
      case O => repeat' (first | (with_reducible exact O) | (with_reducible apply Mem.drew) | (with_reducible apply Mem.drewN) | (with_reducible apply Mem.ext) | (with_reducible apply Mem.alloc) | (with_reducible apply Mem.setCell) | (simp only [ptb, ptb_upd, foots_cons, List.mem_cons, World.size_alloc, size_ext, World.size_setCell, true_or, or_true, eq_self_iff_true, ptb_listA]))
      case' h =>
        intro w5 O'
        (try clear O)
        have O := O'
        clear O'
        (first | simp only [sel, rst, List.cons_append, List.nil_append, World.size_alloc, size_ext, World.size_setCell, size_setMap, World.size_drew, size_drewN, upd, List.set_cons_zero, List.set_cons_succ, if_true, if_false, reduceIte, not_false_eq_true, ne_lt0, ne_lt1, ne_lt2, ne_lt3, ne_lt4, cs] at O | simp only [sel, rst, List.cons_append, List.nil_append, World.size_alloc, size_ext, World.size_setCell, size_setMap, World.size_drew, size_drewN, upd, List.set_cons_zero, List.set_cons_succ, if_true, if_false, reduceIte, not_false_eq_true, ne_lt0, ne_lt1, ne_lt2, ne_lt3, ne_lt4] at O | skip)
        (try clear cs)
        (try clear v1)
        (try clear v2)
        (try clear v3)
      simp only [List.length_cons, List.length_nil, Nat.reduceAdd, Nat.reduceSub, List.take_succ_cons, List.take_zero, List.drop_succ_cons, List.drop_zero]
      have cs := O.facts
      try simp only [factsP, cellsP, roomP, foots_cons, foots_nil, foots_append, foot_pt, ptb, ptb_mapA, foot_mapA, factsP_mapA, foot_bun, List.append_nil, List.nil_append, List.cons_append, List.nodup_cons, List.nodup_nil, List.mem_cons, List.not_mem_nil, List.mem_singleton, List.forall_mem_cons, not_or, not_false_eq_true, and_true, true_and, or_false, false_or, forall_eq_or_imp, forall_eq, implies_true, Nat.zero_add, Nat.reduceAdd, and_assoc, ptb_listA, factsP_listA, rlL, saidCells, Nat.mul_one] at cs
      have v1 := (listA_at (cs := saidCells) (fun _ => rfl) (O.hold (listA 154 4 saidCells (some ⟨g, 0, none⟩) c l) (by simp)) HS.out)
      try simp only [cellsQ, roomP, and_assoc, and_true, true_and, Nat.add_zero, Nat.zero_add, Nat.reduceAdd, factsP, cellsP, roomP, foots_cons, foots_nil, foots_append, foot_pt, ptb, ptb_mapA, foot_mapA, factsP_mapA, foot_bun, List.append_nil, List.nil_append, List.cons_append, List.nodup_cons, List.nodup_nil, List.mem_cons, List.not_mem_nil, List.mem_singleton, List.forall_mem_cons, not_or, not_false_eq_true, and_true, true_and, or_false, false_or, forall_eq_or_imp, forall_eq, implies_true, Nat.zero_add, Nat.reduceAdd, and_assoc, ptb_listA, factsP_listA, rlL, saidCells, Nat.mul_one] at v1
      repeat still_step
      refine wpStill_nil ?_
      go_wp2_with fail
      (try clear cs)
      (try clear v1)
      (try clear v2)
      (try clear v3)
      have O2 := (O.front1 [false, false, true] rfl).listPut (cs := saidCells) (x' := (⟨true, ⟨br, bn⟩, v⟩ : SaidR)) (vs := [.bool true, .int .u32 br, .int .u8 bn, .string v]) (fun _ => rfl) HS.out rfl
      replace O2 := O2.unfront
      simp only [put, List.cons_append, List.nil_append, setAll, Nat.add_zero, Nat.reduceAdd] at O2
      clear O cs
      have O := O2
      clear O2
      obtain ⟨l2, hl2⟩ : ∃ x, x = l.set f ⟨true, ⟨br, bn⟩, v⟩ := ⟨_, rfl⟩
      have hlen : l2.length = l.length := by rw [hl2]; simp
      rw [← hlen, ← hl2] at O HR2
      rw [← hlen] at hl
      have HL2 := Lib.hid hl2
      have HLEN := Lib.hid hlen
      clear hl2 hlen hf hfi HS
      first | apply Mem.atCall | apply Mem.atCode | apply Mem.atList
      case h => repeat' (first | (with_reducible exact O) | (with_reducible apply Mem.drew) | (with_reducible apply Mem.drewN) | (with_reducible apply Mem.ext) | (with_reducible apply Mem.alloc) | (with_reducible apply Mem.setCell) | (simp only [ptb, ptb_upd, foots_cons, List.mem_cons, World.size_alloc, size_ext, World.size_setCell, true_or, or_true, eq_self_iff_true, ptb_listA]))
      case' k =>
        intro w6 O'
        (try clear O)
        have O := O'
        clear O'
        (first | simp only [sel, rst, List.cons_append, List.nil_append, World.size_alloc, size_ext, World.size_setCell, size_setMap, World.size_drew, size_drewN, upd, List.set_cons_zero, List.set_cons_succ, if_true, if_false, reduceIte, not_false_eq_true, ne_lt0, ne_lt1, ne_lt2, ne_lt3, ne_lt4, cs] at O | simp only [sel, rst, List.cons_append, List.nil_append, World.size_alloc, size_ext, World.size_setCell, size_setMap, World.size_drew, size_drewN, upd, List.set_cons_zero, List.set_cons_succ, if_true, if_false, reduceIte, not_false_eq_true, ne_lt0, ne_lt1, ne_lt2, ne_lt3, ne_lt4] at O | skip)
        (try clear cs)
        (try clear v1)
        (try clear v2)
        (try clear v3)
      go_loopw [11, 12] (fun s11 s12 wr => ∃ (k : Nat), k ≤ l2.length ∧ s12 = .int .i64 k ∧ s11 = .int .i64 (countR ⟨br, bn⟩ v (l2.take k)) ∧ Mem w fp wr [.pt w.heap.size [.int .u32 br, .int .u8 bn] 47, .pt lb [.slice (some ⟨g, 0, none⟩) l2.length c, .bool false, .string chosen] 125, listA 154 4 saidCells (some ⟨g, 0, none⟩) c l2]) (fun _ s12 _ => l2.length - (intOf s12).toNat)
      case atStart => exact ⟨0, by omega, rfl, rfl, O⟩
      case round =>
        clear O
        obtain ⟨k, hk, rfl, rfl, O⟩ := hrel
        have hcl : countR ⟨br, bn⟩ v (l2.take k) ≤ 9 := by
          have := List.length_filter_le (sameR ⟨br, bn⟩ v) (l2.take k)
          have h2 := List.length_take_le k l2
          unfold countR
          omega
        by_cases hlt : k < l2.length
        · obtain ⟨x, hx⟩ : ∃ x, l2[k]? = some x := ⟨_, List.getElem?_eq_getElem hlt⟩
          have htk : countR ⟨br, bn⟩ v (l2.take (k + 1)) = countR ⟨br, bn⟩ v (l2.take k) + if sameR ⟨br, bn⟩ v x = true then 1 else 0 := by
            rw [List.take_succ_eq_append_getElem hlt, (List.getElem?_eq_some_iff.1 hx).2]
            unfold countR
            rw [List.filter_append, List.length_append]
            congr 1
            simp only [List.filter_cons, List.filter_nil]
            split <;> rfl
          have HTK := Lib.hid htk
          have HX := Lib.hid hx
          clear htk hx
          generalize countR ⟨br, bn⟩ v (l2.take k) = cn at *
          obtain ⟨xi, ⟨xr, xn⟩, xv⟩ := x
          skip
          have hc : xi = false ∨ (xi = true ∧ ¬ xr = br) ∨ (xi = true ∧ xr = br ∧ ¬ xn = bn) ∨ (xi = true ∧ xr = br ∧ xn = bn ∧ (xv.toList == v.toList) = false) ∨ (xi = true ∧ xr = br ∧ xn = bn ∧ xv.toList = v.toList) := by
            cases xi
            · exact .inl rfl
            · by_cases h1 : xr = br
              · by_cases h2 : xn = bn
                · by_cases h3 : xv.toList = v.toList
                  · exact .inr (.inr (.inr (.inr ⟨rfl, h1, h2, h3⟩)))
                  · exact .inr (.inr (.inr (.inl ⟨rfl, h1, h2, beq_eq_false_iff_ne.2 h3⟩)))
                · exact .inr (.inr (.inl ⟨rfl, h1, h2⟩))
              · exact .inr (.inl ⟨rfl, h1⟩)
          have HC := Lib.hid hc
          clear hc
          have cs := O.facts
          try simp only [factsP, cellsP, roomP, foots_cons, foots_nil, foots_append, foot_pt, ptb, ptb_mapA, foot_mapA, factsP_mapA, foot_bun, List.append_nil, List.nil_append, List.cons_append, List.nodup_cons, List.nodup_nil, List.mem_cons, List.not_mem_nil, List.mem_singleton, List.forall_mem_cons, not_or, not_false_eq_true, and_true, true_and, or_false, false_or, forall_eq_or_imp, forall_eq, implies_true, Nat.zero_add, Nat.reduceAdd, and_assoc, ptb_listA, factsP_listA, rlL, saidCells, Nat.mul_one] at cs
          have v1 := (listA_at (cs := saidCells) (fun _ => rfl) (O.hold (listA 154 4 saidCells (some ⟨g, 0, none⟩) c l2) (by simp)) HX.out)
          try simp only [cellsQ, roomP, and_assoc, and_true, true_and, Nat.add_zero, Nat.zero_add, Nat.reduceAdd, factsP, cellsP, roomP, foots_cons, foots_nil, foots_append, foot_pt, ptb, ptb_mapA, foot_mapA, factsP_mapA, foot_bun, List.append_nil, List.nil_append, List.cons_append, List.nodup_cons, List.nodup_nil, List.mem_cons, List.not_mem_nil, List.mem_singleton, List.forall_mem_cons, not_or, not_false_eq_true, and_true, true_and, or_false, false_or, forall_eq_or_imp, forall_eq, implies_true, Nat.zero_add, Nat.reduceAdd, and_assoc, ptb_listA, factsP_listA, rlL, saidCells, Nat.mul_one] at v1
          go_wp2_with fail
          rcases HC.out with rfl | ⟨rfl, h1⟩ | ⟨rfl, rfl, h1⟩ | ⟨rfl, rfl, rfl, h1⟩ | ⟨rfl, rfl, rfl, h1⟩
          all_goals
            clear HC
            apply region_quiet_mem (by kernel_rfl) (by kernel_rfl)
            case O => repeat' (first | (with_reducible exact O) | (with_reducible apply Mem.drew) | (with_reducible apply Mem.drewN) | (with_reducible apply Mem.ext) | (with_reducible apply Mem.alloc) | (with_reducible apply Mem.setCell) | (simp only [ptb, ptb_upd, foots_cons, List.mem_cons, World.size_alloc, size_ext, World.size_setCell, true_or, or_true, eq_self_iff_true, ptb_listA]))
            case' h =>
              intro w7 O'
              (try clear O)
              have O := O'
              clear O'
              (first | simp only [sel, rst, List.cons_append, List.nil_append, World.size_alloc, size_ext, World.size_setCell, size_setMap, World.size_drew, size_drewN, upd, List.set_cons_zero, List.set_cons_succ, if_true, if_false, reduceIte, not_false_eq_true, ne_lt0, ne_lt1, ne_lt2, ne_lt3, ne_lt4, cs] at O | simp only [sel, rst, List.cons_append, List.nil_append, World.size_alloc, size_ext, World.size_setCell, size_setMap, World.size_drew, size_drewN, upd, List.set_cons_zero, List.set_cons_succ, if_true, if_false, reduceIte, not_false_eq_true, ne_lt0, ne_lt1, ne_lt2, ne_lt3, ne_lt4] at O | skip)
              (try clear cs)
              (try clear v1)
              (try clear v2)
              (try clear v3)
            have cs := O.facts
            try simp only [factsP, cellsP, roomP, foots_cons, foots_nil, foots_append, foot_pt, ptb, ptb_mapA, foot_mapA, factsP_mapA, foot_bun, List.append_nil, List.nil_append, List.cons_append, List.nodup_cons, List.nodup_nil, List.mem_cons, List.not_mem_nil, List.mem_singleton, List.forall_mem_cons, not_or, not_false_eq_true, and_true, true_and, or_false, false_or, forall_eq_or_imp, forall_eq, implies_true, Nat.zero_add, Nat.reduceAdd, and_assoc, ptb_listA, factsP_listA, rlL, saidCells, Nat.mul_one] at cs
            have v1 := (listA_at (cs := saidCells) (fun _ => rfl) (O.hold (listA 154 4 saidCells (some ⟨g, 0, none⟩) c l2) (by simp)) HX.out)
            try simp only [cellsQ, roomP, and_assoc, and_true, true_and, Nat.add_zero, Nat.zero_add, Nat.reduceAdd, factsP, cellsP, roomP, foots_cons, foots_nil, foots_append, foot_pt, ptb, ptb_mapA, foot_mapA, factsP_mapA, foot_bun, List.append_nil, List.nil_append, List.cons_append, List.nodup_cons, List.nodup_nil, List.mem_cons, List.not_mem_nil, List.mem_singleton, List.forall_mem_cons, not_or, not_false_eq_true, and_true, true_and, or_false, false_or, forall_eq_or_imp, forall_eq, implies_true, Nat.zero_add, Nat.reduceAdd, and_assoc, ptb_listA, factsP_listA, rlL, saidCells, Nat.mul_one] at v1
            repeat (go_big_quiet_step ((fail)))
            refine wpQuiet_nil ?_
            intro w8 hq
            (try clear cs)
            (try clear v1)
            (try clear v2)
            (try clear v3)
            replace O := O.qext hq
            clear hq
            have cs := O.facts
            try simp only [factsP, cellsP, roomP, foots_cons, foots_nil, foots_append, foot_pt, ptb, ptb_mapA, foot_mapA, factsP_mapA, foot_bun, List.append_nil, List.nil_append, List.cons_append, List.nodup_cons, List.nodup_nil, List.mem_cons, List.not_mem_nil, List.mem_singleton, List.forall_mem_cons, not_or, not_false_eq_true, and_true, true_and, or_false, false_or, forall_eq_or_imp, forall_eq, implies_true, Nat.zero_add, Nat.reduceAdd, and_assoc, ptb_listA, factsP_listA, rlL, saidCells, Nat.mul_one] at cs
            have v1 := (listA_at (cs := saidCells) (fun _ => rfl) (O.hold (listA 154 4 saidCells (some ⟨g, 0, none⟩) c l2) (by simp)) HX.out)
            try simp only [cellsQ, roomP, and_assoc, and_true, true_and, Nat.add_zero, Nat.zero_add, Nat.reduceAdd, factsP, cellsP, roomP, foots_cons, foots_nil, foots_append, foot_pt, ptb, ptb_mapA, foot_mapA, factsP_mapA, foot_bun, List.append_nil, List.nil_append, List.cons_append, List.nodup_cons, List.nodup_nil, List.mem_cons, List.not_mem_nil, List.mem_singleton, List.forall_mem_cons, not_or, not_false_eq_true, and_true, true_and, or_false, false_or, forall_eq_or_imp, forall_eq, implies_true, Nat.zero_add, Nat.reduceAdd, and_assoc, ptb_listA, factsP_listA, rlL, saidCells, Nat.mul_one] at v1
            go_wp2_with fail
            go_roundw
            case rel => exact ⟨k + 1, by omega, by go_num, by rw [HTK.out]; simp_all [sameR], O⟩
            case measure => simp [intOf]; omega
        · obtain rfl : k = l2.length := by omega
          rw [List.take_length] at hcl ⊢
          have hr := HR2.out
          generalize countR ⟨br, bn⟩ v l2 = cn at *
          skip
          by_cases hm : 2 * (cn : Int) ≤ l2.length
          · rw [if_pos hm] at hr
            subst hr
            have cs := O.facts
            try simp only [factsP, cellsP, roomP, foots_cons, foots_nil, foots_append, foot_pt, ptb, ptb_mapA, foot_mapA, factsP_mapA, foot_bun, List.append_nil, List.nil_append, List.cons_append, List.nodup_cons, List.nodup_nil, List.mem_cons, List.not_mem_nil, List.mem_singleton, List.forall_mem_cons, not_or, not_false_eq_true, and_true, true_and, or_false, false_or, forall_eq_or_imp, forall_eq, implies_true, Nat.zero_add, Nat.reduceAdd, and_assoc, ptb_listA, factsP_listA, rlL, saidCells, Nat.mul_one] at cs
            go_wp2_with fail
            go_ret2
            exact ⟨rfl, O.sel [false, true, true]⟩
          · rw [if_neg hm] at hr
            subst hr
            have cs := O.facts
            try simp only [factsP, cellsP, roomP, foots_cons, foots_nil, foots_append, foot_pt, ptb, ptb_mapA, foot_mapA, factsP_mapA, foot_bun, List.append_nil, List.nil_append, List.cons_append, List.nodup_cons, List.nodup_nil, List.mem_cons, List.not_mem_nil, List.mem_singleton, List.forall_mem_cons, not_or, not_false_eq_true, and_true, true_and, or_false, false_or, forall_eq_or_imp, forall_eq, implies_true, Nat.zero_add, Nat.reduceAdd, and_assoc, ptb_listA, factsP_listA, rlL, saidCells, Nat.mul_one] at cs
            go_wp2_with fail
            go_ret2
            refine ⟨rfl, ?_⟩
            apply Mem.to [false, true, true]
            · repeat' (first | (with_reducible exact O) | (with_reducible apply Mem.drew) | (with_reducible apply Mem.drewN) | (with_reducible apply Mem.ext) | (with_reducible apply Mem.alloc) | (with_reducible apply Mem.setCell) | (simp only [ptb, ptb_upd, foots_cons, List.mem_cons, World.size_alloc, size_ext, World.size_setCell, true_or, or_true, eq_self_iff_true, ptb_listA]))
            · first | with_reducible rfl | (simp only [sel, rst, List.cons_append, List.nil_append, World.size_alloc, size_ext, World.size_setCell, size_setMap, World.size_drew, size_drewN, upd, List.set_cons_zero, List.set_cons_succ, if_true, if_false, reduceIte, not_false_eq_true, ne_lt0, ne_lt1, ne_lt2, ne_lt3, ne_lt4, cs]; done) | (simp only [sel, rst, List.cons_append, List.nil_append, World.size_alloc, size_ext, World.size_setCell, size_setMap, World.size_drew, size_drewN, upd, List.set_cons_zero, List.set_cons_succ, if_true, if_false, reduceIte, not_false_eq_true, ne_lt0, ne_lt1, ne_lt2, ne_lt3, ne_lt4]; done) | (simp only [sel, rst, List.cons_append, List.nil_append, World.size_alloc, size_ext, World.size_setCell, size_setMap, World.size_drew, size_drewN, upd, List.set_cons_zero, List.set_cons_succ, if_true, if_false, reduceIte, not_false_eq_true, ne_lt0, ne_lt1, ne_lt2, ne_lt3, ne_lt4, cs]; rfl) | (simp only [sel, rst, List.cons_append, List.nil_append, World.size_alloc, size_ext, World.size_setCell, size_setMap, World.size_drew, size_drewN, upd, List.set_cons_zero, List.set_cons_succ, if_true, if_false, reduceIte, not_false_eq_true, ne_lt0, ne_lt1, ne_lt2, ne_lt3, ne_lt4]; rfl)
structure LR (s : Learn11) (r : RL) : Prop where
  n : s.n = r.l.length
  is : s.is = r.is
  chosen : s.chosen = r.chosen
  nd : (keysOf s.said).Nodup
  rng : ∀ q ∈ s.said, 0 ≤ q.1 ∧ q.1 < s.n
  at_ : ∀ k : Nat, k < r.l.length → mget s.said (k : Int) = if (r.l.getD k noSaid).is then some ⟨(r.l.getD k noSaid).b, (r.l.getD k noSaid).v⟩ else none
theorem LR.zero (n : Nat) : LR (newL n) ⟨List.replicate n noSaid, false, .empty⟩ :=
  ⟨by simp [newL], rfl, rfl, List.nodup_nil, fun q hq => by simp [newL] at hq, fun k hk => by
    simp only [List.length_replicate] at hk
    rw [List.getD_eq_getElem?_getD, List.getElem?_replicate, if_pos hk]; rfl⟩
theorem count_range {α : Type} (p : α → Bool) (d : α) (l : List α) : (l.filter p).length = ((List.range l.length).filter (fun i => p (l.getD i d))).length := by
  have e : l = (List.range l.length).map (fun i => l.getD i d) := by
    apply List.ext_getElem
    · simp
    · intro i h1 h2
      simp [List.getD_eq_getElem?_getD, List.getElem?_eq_getElem h1]
  rw (occs := .pos [1]) [e]
  rw [List.filter_map, List.length_map]
  rfl
theorem LR.small {s : Learn11} {r : RL} (h : LR s r) (hn : s.n ≤ 9) : s.said.length ≤ 9 := by
  have := nodup_le _ (List.range 9) (natKeys h.nd (fun q hq => (h.rng q hq).1)) (fun x hx => by
    obtain ⟨q, hq, rfl⟩ := List.mem_map.1 hx
    have := h.rng q hq
    rw [List.mem_range]; omega)
  simpa using this
theorem LR.told {s : Learn11} {r : RL} (h : LR s r) (b : Ballot) (v : ByteArray) : told11 s.said ⟨b, v⟩ = countR b v r.l := by
  unfold told11 countR
  rw [count_range (sameR b v) noSaid]
  have hkey : ∀ q, q ∈ s.said.filter (fun p => p.2.same ⟨b, v⟩) → q.1.toNat ∈ (List.range r.l.length).filter (fun i => sameR b v (r.l.getD i noSaid)) := by
    intro q hq
    obtain ⟨hqm, hqs⟩ := List.mem_filter.1 hq
    have hr := h.rng q hqm
    have hn := h.n
    have hk : q.1.toNat < r.l.length := by omega
    rw [List.mem_filter, List.mem_range]
    refine ⟨hk, ?_⟩
    obtain ⟨j, hj⟩ := List.getElem?_of_mem hqm
    have hg := mget_at h.nd hj
    have ha := h.at_ q.1.toNat hk
    rw [show ((q.1.toNat : Nat) : Int) = q.1 by omega, hg] at ha
    generalize r.l.getD q.1.toNat noSaid = sd at ha ⊢
    cases hi : sd.is
    · simp [hi] at ha
    · simp only [hi, if_true, Option.some.injEq] at ha
      rw [ha] at hqs
      simp only [Said.same, decide_eq_true_eq] at hqs
      simp [sameR, hi, hqs.1, hqs.2.1, hqs.2.2]
  have h1 := nodup_le _ ((List.range r.l.length).filter (fun i => sameR b v (r.l.getD i noSaid))) (natKeys (m := s.said.filter (fun p => p.2.same ⟨b, v⟩)) (h.nd.sublist (List.filter_sublist.map _)) (fun q hq => (h.rng q (List.mem_filter.1 hq).1).1)) (fun x hx => by
    obtain ⟨q, hq, rfl⟩ := List.mem_map.1 hx
    exact hkey q hq)
  have h2 := nodup_le ((List.range r.l.length).filter (fun i => sameR b v (r.l.getD i noSaid))) ((s.said.filter (fun p => p.2.same ⟨b, v⟩)).map (fun q => q.1.toNat)) (List.nodup_range.sublist List.filter_sublist) (fun i hi => by
    rw [List.mem_filter, List.mem_range] at hi
    obtain ⟨hk, hs⟩ := hi
    have ha := h.at_ i hk
    generalize r.l.getD i noSaid = sd at ha hs
    simp only [sameR, Bool.and_eq_true, decide_eq_true_eq] at hs
    rw [hs.1.1.1] at ha
    simp only [if_true] at ha
    exact List.mem_map.2 ⟨_, List.mem_filter.2 ⟨mget_mem ha, by simp [Said.same, hs.1.1.2, hs.1.2, hs.2]⟩, by simp⟩)
  simp only [List.length_map] at h1 h2
  omega
theorem LR.accepted {s : Learn11} {r : RL} (h : LR s r) (f : Nat) (b : Ballot) (v : ByteArray) (hi : s.is = false) (hf : f < r.l.length) :
    (accepted11 s f b v).1 = (raccepted r f b v).1 ∧ (accepted11 s f b v).2.1 = (raccepted r f b v).2.1 ∧ LR (accepted11 s f b v).2.2 (raccepted r f b v).2.2 := by
  have hn := h.n
  have ha := h.at_ f hf
  have hst : stale11 s.said f b = true ↔ (r.l.getD f noSaid).is = true ∧ less (r.l.getD f noSaid).b b = false := by
    unfold stale11
    rw [ha]
    cases hi : (r.l.getD f noSaid).is <;> simp
  have hcond : (s.is = true ∨ (f : Int) < 0 ∨ s.n ≤ f ∨ stale11 s.said f b = true) ↔ ((r.l.getD f noSaid).is = true ∧ less (r.l.getD f noSaid).b b = false) := by
    rw [← hst]
    constructor
    · rintro (h | h | h | h)
      · rw [hi] at h; simp at h
      · omega
      · omega
      · exact h
    · exact fun h => .inr (.inr (.inr h))
  have hset : LR ⟨s.n, mset s.said f ⟨b, v⟩, s.chosen, s.is⟩ ⟨r.l.set f ⟨true, b, v⟩, r.is, r.chosen⟩ := by
    refine ⟨by simp [h.n], h.is, h.chosen, nodup_mset h.nd _ _, fun q hq => ?_, fun k hk => ?_⟩
    · rcases mem_mset hq with rfl | hq
      · simp only; omega
      · exact h.rng q hq
    · simp only [List.length_set] at hk
      simp only [mget_mset]
      by_cases e : f = k
      · subst e
        rw [if_pos rfl, List.getD_eq_getElem?_getD, List.getElem?_set_self hf]
        rfl
      · rw [if_neg (by omega), h.at_ k hk, List.getD_eq_getElem?_getD, List.getD_eq_getElem?_getD, List.getElem?_set_ne e]
  have hcnt := hset.told b v
  simp only at hcnt
  unfold accepted11 raccepted
  by_cases hc : (r.l.getD f noSaid).is = true ∧ less (r.l.getD f noSaid).b b = false
  · rw [if_pos (hcond.2 hc), if_pos hc]
    exact ⟨rfl, rfl, h⟩
  · rw [if_neg (fun x => hc (hcond.1 x)), if_neg hc]
    simp only [hcnt]
    by_cases hm : 2 * (countR b v (r.l.set f ⟨true, b, v⟩) : Int) ≤ r.l.length
    · rw [if_pos (by omega), if_pos hm]
      exact ⟨rfl, rfl, hset⟩
    · rw [if_neg (by omega), if_neg hm]
      exact ⟨rfl, rfl, ⟨hset.n, rfl, rfl, hset.nd, hset.rng, hset.at_⟩⟩
theorem factsP_rlA {w : World} {L : List Asn} {lb c : Nat} {A : Option Addr} {r : RL} : factsP w (rlA lb A c r :: L) = factsP w L := rfl
theorem ptb_rlA {L : List Asn} {lb c : Nat} {A : Option Addr} {r : RL} : ptb (rlA lb A c r :: L) = ptb L := rfl
section
variable (w : World)
/-- what a learner of the document's comes to, of any number -/
def raccI (r : RL) (f : Int) (b : Ballot) (v : ByteArray) : ByteArray × Bool × RL := if r.is = true ∨ f < 0 ∨ (r.l.length : Int) ≤ f then (.empty, false, r) else raccepted r f.toNat b v
theorem LR.any {s : Learn11} {r : RL} (h : LR s r) (f : Int) (b : Ballot) (v : ByteArray) : (accepted11 s f b v).1 = (raccI r f b v).1 ∧ (accepted11 s f b v).2.1 = (raccI r f b v).2.1 ∧ LR (accepted11 s f b v).2.2 (raccI r f b v).2.2 := by
  have hn := h.n
  unfold raccI
  by_cases hc : r.is = true ∨ f < 0 ∨ (r.l.length : Int) ≤ f
  · rw [if_pos hc]
    unfold accepted11
    rw [if_pos]
    · exact ⟨rfl, rfl, h⟩
    · rcases hc with hc | hc | hc
      · exact .inl (h.is.trans hc)
      · exact .inr (.inl hc)
      · exact .inr (.inr (.inl (by omega)))
  · rw [if_neg hc]
    simp only [not_or] at hc
    obtain ⟨k, rfl⟩ := Int.eq_ofNat_of_zero_le (show 0 ≤ f by omega)
    rw [Int.toNat_natCast]
    exact h.accepted k b v (by rw [h.is]; simpa using hc.1) (by omega)
theorem rlA_Accepted (lb : Nat) (A : Option Addr) (c : Nat) (s : Learn11) (r : RL) (hsr : LR s r) (hn : s.n ≤ 9) (f : Int) (b : Ballot) (v : ByteArray) (h : Pre w [rlA lb A c r]) :
    Calls Try.prog 48 #[.pointer (some ⟨lb, 0, none⟩), .int .i64 f, b.val, .string v] w (fun e w' => e = .returned (.tuple #[.string (accepted11 s f b v).1, .bool (accepted11 s f b v).2.1]) ∧ Mem w (foots [rlA lb A c r]) w' [rlA lb A c (raccI r f b v).2.2]) := by
  obtain ⟨e1, e2, e3⟩ := hsr.any f b v
  have hn2 := hsr.n
  rw [e1, e2]
  unfold raccI
  by_cases hc : r.is = true ∨ f < 0 ∨ (r.l.length : Int) ≤ f
  · rw [if_pos hc]
    exact (rl_Accepted_no w lb A c r f b v (pre_bun h) hc (by omega)).mono fun _ _ ⟨he, hm⟩ => ⟨he, call0 h hm⟩
  · rw [if_neg hc]
    simp only [not_or] at hc
    obtain ⟨k, rfl⟩ := Int.eq_ofNat_of_zero_le (show 0 ≤ f by omega)
    rw [Int.toNat_natCast]
    exact (rl_Accepted w lb A c r k b v (pre_bun h) (by simpa using hc.1) (by omega) (by omega)).mono fun _ _ ⟨he, hm⟩ => ⟨he, mem_bun hm⟩
end
end Go.Proofs.Ytplliabmnhigbaa
