/- WALKS: the document's proposer (tontineref11): it comes to plain functions on lists. -/
import Derived.Test.YtkhpikjmhamppaaMore11
import Derived.Test.YtkhpikjmhamppaaArgs
import Derived.Test.YtkhpikjmhamppaaElt
set_option linter.unusedVariables false
set_option linter.unusedSimpArgs false
namespace Go.Proofs.Ytkhpikjmhamppaa
open Go.RowKit Go.Tk

def intCells (i : Int) : List Value := [.int .i64 i]
def accCells (a : Acc) : List Value := [.bool a.is, .int .u32 a.b.r, .int .u8 a.b.n, .string a.v]
theorem intTy : ElTy Try.prog 53 3 1 intCells 0 := ⟨Try.underlying53, by kernel_rfl, by kernel_rfl, by omega, fun _ => rfl, fun a u h => by simp [intCells] at h; subst h; rfl⟩
theorem accTy : ElTy Try.prog 54 36 4 accCells noA := ⟨Try.underlying54, by kernel_rfl, by kernel_rfl, by omega, fun _ => rfl, fun a u h => by simp [accCells] at h; rcases h with rfl | rfl | rfl | rfl <;> rfl⟩
structure RP where
  node : Int
  n : Int
  b : Ballot
  own : ByteArray
  from_ : List Int
  l : List Acc
def rpL (pb : Nat) (A : Option Addr) (c : Nat) (A2 : Option Addr) (c2 : Nat) (p : RP) : List Asn :=
  [.pt pb [.int .i64 p.node, .int .i64 p.n, .int .u32 p.b.r, .int .u8 p.b.n, .string p.own, .slice A p.from_.length c, .slice A2 p.l.length c2] 56, listA 3 1 intCells A c p.from_, listA 36 4 accCells A2 c2 p.l]
/-- the value told: own, or that of the greatest ballot -/
def foldStep (s : ByteArray × Ballot × Bool) (a : Acc) : ByteArray × Ballot × Bool := if a.is = true ∧ (s.2.2 = false ∨ less s.2.1 a.b = true) then (a.v, a.b, true) else s
def foldBest (own : ByteArray) (l : List Acc) : ByteArray × Ballot × Bool := l.foldl foldStep (own, noB, false)
def rpromise (p : RP) (f : Int) (b : Ballot) (a : Acc) : ByteArray × Bool × RP :=
  if p.b.r = 0 ∨ b ≠ p.b ∨ f < 0 ∨ p.n ≤ f ∨ f ∈ p.from_ then (.empty, false, p) else
  let p' : RP := ⟨p.node, p.n, p.b, p.own, p.from_ ++ [f], p.l ++ [a]⟩
  if 2 * ((p.l.length : Int) + 1) ≤ p.n ∨ p.n < 2 * (p.l.length : Int) then (.empty, false, p') else ((foldBest p.own (p.l ++ [a])).1, true, p')

set_option maxRecDepth 100000 in
set_option maxHeartbeats 4000000 in
theorem ref_Less11 (a b : Ballot) (w : World) : Calls Try.prog 27 #[a.val, b.val] w (fun e w' => e = .returned (.bool (less a b)) ∧ Mem w [] w' []) := by
  obtain ⟨ar, an⟩ := a
  obtain ⟨br, bn⟩ := b
  obtain ⟨v, hv⟩ : ∃ v, v = less ⟨ar, an⟩ ⟨br, bn⟩ := ⟨_, rfl⟩
  rw [← hv]
  have HV := Lib.hid hv
  clear hv
  simp only [Ballot.val]
  have O : Mem w [] w [] := Mem.begin
  go_enter Try.func27, Try.ntmps27
  by_cases h1 : ar < br
  · go_wp2
    go_ret
    refine ⟨?_, ?_⟩
    · rw [HV.out]; simp [less, h1]
    · apply Mem.to []
      · repeat' (first | (with_reducible exact O) | (with_reducible apply Mem.drew) | (with_reducible apply Mem.drewN) | (with_reducible apply Mem.ext) | (with_reducible apply Mem.alloc) | (with_reducible apply Mem.setCell) | (simp only [ptb, ptb_upd, foots_cons, List.mem_cons, World.size_alloc, size_ext, World.size_setCell, true_or, or_true, eq_self_iff_true]))
      · first | with_reducible rfl | (simp only [sel, rst, List.cons_append, List.nil_append, World.size_alloc, size_ext, World.size_setCell, size_setMap, World.size_drew, size_drewN, upd, List.set_cons_zero, List.set_cons_succ, if_true, if_false, reduceIte, not_false_eq_true, ne_lt0, ne_lt1, ne_lt2, ne_lt3, ne_lt4, cs]; done) | (simp only [sel, rst, List.cons_append, List.nil_append, World.size_alloc, size_ext, World.size_setCell, size_setMap, World.size_drew, size_drewN, upd, List.set_cons_zero, List.set_cons_succ, if_true, if_false, reduceIte, not_false_eq_true, ne_lt0, ne_lt1, ne_lt2, ne_lt3, ne_lt4]; done) | (simp only [sel, rst, List.cons_append, List.nil_append, World.size_alloc, size_ext, World.size_setCell, size_setMap, World.size_drew, size_drewN, upd, List.set_cons_zero, List.set_cons_succ, if_true, if_false, reduceIte, not_false_eq_true, ne_lt0, ne_lt1, ne_lt2, ne_lt3, ne_lt4, cs]; rfl) | (simp only [sel, rst, List.cons_append, List.nil_append, World.size_alloc, size_ext, World.size_setCell, size_setMap, World.size_drew, size_drewN, upd, List.set_cons_zero, List.set_cons_succ, if_true, if_false, reduceIte, not_false_eq_true, ne_lt0, ne_lt1, ne_lt2, ne_lt3, ne_lt4]; rfl)
  · by_cases h2 : ar = br
    · subst h2
      go_wp2
      go_ret
      refine ⟨?_, ?_⟩
      · rw [HV.out]; simp [less]
      · apply Mem.to []
        · repeat' (first | (with_reducible exact O) | (with_reducible apply Mem.drew) | (with_reducible apply Mem.drewN) | (with_reducible apply Mem.ext) | (with_reducible apply Mem.alloc) | (with_reducible apply Mem.setCell) | (simp only [ptb, ptb_upd, foots_cons, List.mem_cons, World.size_alloc, size_ext, World.size_setCell, true_or, or_true, eq_self_iff_true]))
        · first | with_reducible rfl | (simp only [sel, rst, List.cons_append, List.nil_append, World.size_alloc, size_ext, World.size_setCell, size_setMap, World.size_drew, size_drewN, upd, List.set_cons_zero, List.set_cons_succ, if_true, if_false, reduceIte, not_false_eq_true, ne_lt0, ne_lt1, ne_lt2, ne_lt3, ne_lt4, cs]; done) | (simp only [sel, rst, List.cons_append, List.nil_append, World.size_alloc, size_ext, World.size_setCell, size_setMap, World.size_drew, size_drewN, upd, List.set_cons_zero, List.set_cons_succ, if_true, if_false, reduceIte, not_false_eq_true, ne_lt0, ne_lt1, ne_lt2, ne_lt3, ne_lt4]; done) | (simp only [sel, rst, List.cons_append, List.nil_append, World.size_alloc, size_ext, World.size_setCell, size_setMap, World.size_drew, size_drewN, upd, List.set_cons_zero, List.set_cons_succ, if_true, if_false, reduceIte, not_false_eq_true, ne_lt0, ne_lt1, ne_lt2, ne_lt3, ne_lt4, cs]; rfl) | (simp only [sel, rst, List.cons_append, List.nil_append, World.size_alloc, size_ext, World.size_setCell, size_setMap, World.size_drew, size_drewN, upd, List.set_cons_zero, List.set_cons_succ, if_true, if_false, reduceIte, not_false_eq_true, ne_lt0, ne_lt1, ne_lt2, ne_lt3, ne_lt4]; rfl)
    · go_wp2
      go_ret
      refine ⟨?_, ?_⟩
      · rw [HV.out]; simp [less, h1, h2]
      · apply Mem.to []
        · repeat' (first | (with_reducible exact O) | (with_reducible apply Mem.drew) | (with_reducible apply Mem.drewN) | (with_reducible apply Mem.ext) | (with_reducible apply Mem.alloc) | (with_reducible apply Mem.setCell) | (simp only [ptb, ptb_upd, foots_cons, List.mem_cons, World.size_alloc, size_ext, World.size_setCell, true_or, or_true, eq_self_iff_true]))
        · first | with_reducible rfl | (simp only [sel, rst, List.cons_append, List.nil_append, World.size_alloc, size_ext, World.size_setCell, size_setMap, World.size_drew, size_drewN, upd, List.set_cons_zero, List.set_cons_succ, if_true, if_false, reduceIte, not_false_eq_true, ne_lt0, ne_lt1, ne_lt2, ne_lt3, ne_lt4, cs]; done) | (simp only [sel, rst, List.cons_append, List.nil_append, World.size_alloc, size_ext, World.size_setCell, size_setMap, World.size_drew, size_drewN, upd, List.set_cons_zero, List.set_cons_succ, if_true, if_false, reduceIte, not_false_eq_true, ne_lt0, ne_lt1, ne_lt2, ne_lt3, ne_lt4]; done) | (simp only [sel, rst, List.cons_append, List.nil_append, World.size_alloc, size_ext, World.size_setCell, size_setMap, World.size_drew, size_drewN, upd, List.set_cons_zero, List.set_cons_succ, if_true, if_false, reduceIte, not_false_eq_true, ne_lt0, ne_lt1, ne_lt2, ne_lt3, ne_lt4, cs]; rfl) | (simp only [sel, rst, List.cons_append, List.nil_append, World.size_alloc, size_ext, World.size_setCell, size_setMap, World.size_drew, size_drewN, upd, List.set_cons_zero, List.set_cons_succ, if_true, if_false, reduceIte, not_false_eq_true, ne_lt0, ne_lt1, ne_lt2, ne_lt3, ne_lt4]; rfl)
theorem rpL_nil {w0 w : World} {F : List Nat} {pb : Nat} {node n : Int} {b : Ballot} {own : ByteArray} (h : Mem w0 F w [.pt pb [.int .i64 node, .int .i64 n, .int .u32 b.r, .int .u8 b.n, .string own, .slice none 0 0, .slice none 0 0] 56]) : Mem w0 F w (rpL pb none 0 none 0 ⟨node, n, b, own, [], []⟩) :=
  (Mem.listNil (e := 3) (size := 1) (cs := intCells) (Mem.listNil (e := 36) (size := 4) (cs := accCells) h)).perm
    ((List.Perm.cons _ (List.Perm.swap _ _ _)).trans (List.Perm.swap _ _ _))
set_option maxRecDepth 100000 in
set_option maxHeartbeats 4000000 in
theorem rp_Begin_no (w : World) (pb : Nat) (A : Option Addr) (c : Nat) (A2 : Option Addr) (c2 : Nat) (p : RP) (round : Int) (v : ByteArray) (h : Pre w (rpL pb A c A2 c2 p)) (hr : 0 ≤ round) (hn : round = 0 ∨ round ≤ p.b.r) :
    Calls Try.prog 18 #[.pointer (some ⟨pb, 0, none⟩), .int .u32 round, .string v] w (fun e w' => e = .returned (.tuple #[noB.val, .int .i64 (if round = 0 then 1 else 111)]) ∧ Mem w [] w' []) := by
  have H := Lib.hid h
  clear h
  obtain ⟨node, n, ⟨pr, pn⟩, own, from_, l⟩ := p
  have O : Mem w [] w [] := Mem.begin
  simp only at hn
  by_cases h0 : round = 0
  · subst h0
    have hb : (if (0 : Int) = 0 then (1 : Int) else 111) = 1 := rfl
    rw [hb]
    clear hb hn
    skip
    go_enter Try.func18, Try.ntmps18
    have cs := O.facts
    simp only [factsP, cellsP, roomP, foots_cons, foots_nil, foots_append, foot_pt, ptb, ptb_mapA, foot_mapA, factsP_mapA, foot_bun, List.append_nil, List.nil_append, List.cons_append, List.nodup_cons, List.nodup_nil, List.mem_cons, List.not_mem_nil, List.mem_singleton, List.forall_mem_cons, not_or, not_false_eq_true, and_true, true_and, or_false, false_or, forall_eq_or_imp, forall_eq, implies_true, Nat.zero_add, Nat.reduceAdd, and_assoc, ptb_listA, factsP_listA, rpL, accCells, intCells, Nat.mul_one] at cs
    go_wp2_with fail
    refine bodyPost_ret (v := .tuple #[noB.val, .int .i64 1]) (by simp [results, Try.results18, go_sem, Ballot.val, noB]) rfl ⟨rfl, ?_⟩
    apply Mem.to []
    · repeat' (first | (with_reducible exact O) | (with_reducible apply Mem.drew) | (with_reducible apply Mem.drewN) | (with_reducible apply Mem.ext) | (with_reducible apply Mem.alloc) | (with_reducible apply Mem.setCell) | (simp only [ptb, ptb_upd, foots_cons, List.mem_cons, World.size_alloc, size_ext, World.size_setCell, true_or, or_true, eq_self_iff_true]))
    · first | with_reducible rfl | (simp only [sel, rst, List.cons_append, List.nil_append, World.size_alloc, size_ext, World.size_setCell, size_setMap, World.size_drew, size_drewN, upd, List.set_cons_zero, List.set_cons_succ, if_true, if_false, reduceIte, not_false_eq_true, ne_lt0, ne_lt1, ne_lt2, ne_lt3, ne_lt4, cs]; done) | (simp only [sel, rst, List.cons_append, List.nil_append, World.size_alloc, size_ext, World.size_setCell, size_setMap, World.size_drew, size_drewN, upd, List.set_cons_zero, List.set_cons_succ, if_true, if_false, reduceIte, not_false_eq_true, ne_lt0, ne_lt1, ne_lt2, ne_lt3, ne_lt4]; done) | (simp only [sel, rst, List.cons_append, List.nil_append, World.size_alloc, size_ext, World.size_setCell, size_setMap, World.size_drew, size_drewN, upd, List.set_cons_zero, List.set_cons_succ, if_true, if_false, reduceIte, not_false_eq_true, ne_lt0, ne_lt1, ne_lt2, ne_lt3, ne_lt4, cs]; rfl) | (simp only [sel, rst, List.cons_append, List.nil_append, World.size_alloc, size_ext, World.size_setCell, size_setMap, World.size_drew, size_drewN, upd, List.set_cons_zero, List.set_cons_succ, if_true, if_false, reduceIte, not_false_eq_true, ne_lt0, ne_lt1, ne_lt2, ne_lt3, ne_lt4]; rfl)
  · have hb : (if round = 0 then (1 : Int) else 111) = 111 := if_neg h0
    rw [hb]
    have hle : round ≤ pr := by omega
    clear hb hn
    have h1 : (round == 0) = false := by simp [h0]
    skip
    go_enter Try.func18, Try.ntmps18
    have cs := O.facts
    simp only [factsP, cellsP, roomP, foots_cons, foots_nil, foots_append, foot_pt, ptb, ptb_mapA, foot_mapA, factsP_mapA, foot_bun, List.append_nil, List.nil_append, List.cons_append, List.nodup_cons, List.nodup_nil, List.mem_cons, List.not_mem_nil, List.mem_singleton, List.forall_mem_cons, not_or, not_false_eq_true, and_true, true_and, or_false, false_or, forall_eq_or_imp, forall_eq, implies_true, Nat.zero_add, Nat.reduceAdd, and_assoc, ptb_listA, factsP_listA, rpL, accCells, intCells, Nat.mul_one] at cs
    have v1 := (H.out.view O.fr).facts
    try simp only [cellsQ, roomP, and_assoc, and_true, true_and, Nat.add_zero, Nat.zero_add, Nat.reduceAdd, factsP, cellsP, roomP, foots_cons, foots_nil, foots_append, foot_pt, ptb, ptb_mapA, foot_mapA, factsP_mapA, foot_bun, List.append_nil, List.nil_append, List.cons_append, List.nodup_cons, List.nodup_nil, List.mem_cons, List.not_mem_nil, List.mem_singleton, List.forall_mem_cons, not_or, not_false_eq_true, and_true, true_and, or_false, false_or, forall_eq_or_imp, forall_eq, implies_true, Nat.zero_add, Nat.reduceAdd, and_assoc, ptb_listA, factsP_listA, rpL, accCells, intCells, Nat.mul_one] at v1
    go_wp2_with fail
    refine bodyPost_ret (v := .tuple #[noB.val, .int .i64 111]) (by simp [results, Try.results18, go_sem, Ballot.val, noB]) rfl ⟨rfl, ?_⟩
    apply Mem.to []
    · repeat' (first | (with_reducible exact O) | (with_reducible apply Mem.drew) | (with_reducible apply Mem.drewN) | (with_reducible apply Mem.ext) | (with_reducible apply Mem.alloc) | (with_reducible apply Mem.setCell) | (simp only [ptb, ptb_upd, foots_cons, List.mem_cons, World.size_alloc, size_ext, World.size_setCell, true_or, or_true, eq_self_iff_true]))
    · first | with_reducible rfl | (simp only [sel, rst, List.cons_append, List.nil_append, World.size_alloc, size_ext, World.size_setCell, size_setMap, World.size_drew, size_drewN, upd, List.set_cons_zero, List.set_cons_succ, if_true, if_false, reduceIte, not_false_eq_true, ne_lt0, ne_lt1, ne_lt2, ne_lt3, ne_lt4, cs]; done) | (simp only [sel, rst, List.cons_append, List.nil_append, World.size_alloc, size_ext, World.size_setCell, size_setMap, World.size_drew, size_drewN, upd, List.set_cons_zero, List.set_cons_succ, if_true, if_false, reduceIte, not_false_eq_true, ne_lt0, ne_lt1, ne_lt2, ne_lt3, ne_lt4]; done) | (simp only [sel, rst, List.cons_append, List.nil_append, World.size_alloc, size_ext, World.size_setCell, size_setMap, World.size_drew, size_drewN, upd, List.set_cons_zero, List.set_cons_succ, if_true, if_false, reduceIte, not_false_eq_true, ne_lt0, ne_lt1, ne_lt2, ne_lt3, ne_lt4, cs]; rfl) | (simp only [sel, rst, List.cons_append, List.nil_append, World.size_alloc, size_ext, World.size_setCell, size_setMap, World.size_drew, size_drewN, upd, List.set_cons_zero, List.set_cons_succ, if_true, if_false, reduceIte, not_false_eq_true, ne_lt0, ne_lt1, ne_lt2, ne_lt3, ne_lt4]; rfl)
set_option maxRecDepth 100000 in
set_option maxHeartbeats 4000000 in
theorem rp_Begin (w : World) (pb : Nat) (A : Option Addr) (c : Nat) (A2 : Option Addr) (c2 : Nat) (p : RP) (round : Int) (v : ByteArray) (h : Pre w (rpL pb A c A2 c2 p)) (hp : 0 ≤ p.node ∧ p.node ≤ 255) (hr : ¬ (round = 0)) (hn : ¬ (round ≤ p.b.r)) :
    Calls Try.prog 18 #[.pointer (some ⟨pb, 0, none⟩), .int .u32 round, .string v] w (fun e w' => e = .returned (.tuple #[.agg #[.int .u32 round, .int .u8 p.node], .int .i64 0]) ∧
      Mem w (foots (rpL pb A c A2 c2 p)) w' (rpL pb none 0 none 0 ⟨p.node, p.n, ⟨round, p.node⟩, v, [], []⟩)) := by
  skip
  obtain ⟨fp, hfp⟩ : ∃ F, F = foots (rpL pb A c A2 c2 p) := ⟨_, rfl⟩
  have O : Mem w fp w (rpL pb A c A2 c2 p) := by rw [hfp]; exact h
  rw [← hfp]
  clear hfp h
  obtain ⟨node, n, ⟨pr, pn⟩, own, from_, l⟩ := p
  simp only at hp hn
  obtain ⟨hp1, hp2⟩ := hp
  simp only [rpL] at O
  have h1 : (round == 0) = false := by simp [hr]
  have hc : IntKind.u8.wrap node = node := by simp [IntKind.wrap, IntKind.signed, IntKind.bits]; omega
  go_enter Try.func18, Try.ntmps18
  have cs := O.facts
  simp only [factsP, cellsP, roomP, foots_cons, foots_nil, foots_append, foot_pt, ptb, ptb_mapA, foot_mapA, factsP_mapA, foot_bun, List.append_nil, List.nil_append, List.cons_append, List.nodup_cons, List.nodup_nil, List.mem_cons, List.not_mem_nil, List.mem_singleton, List.forall_mem_cons, not_or, not_false_eq_true, and_true, true_and, or_false, false_or, forall_eq_or_imp, forall_eq, implies_true, Nat.zero_add, Nat.reduceAdd, and_assoc, ptb_listA, factsP_listA, rpL, accCells, intCells, Nat.mul_one] at cs
  go_wp2_with fail
  refine bodyPost_ret (v := .tuple #[.agg #[.int .u32 round, .int .u8 node], .int .i64 0]) (by simp [results, Try.results18, go_sem, cs]) rfl ⟨rfl, ?_⟩
  refine rpL_nil ?_
  apply Mem.to [false, true]
  · repeat' (first | (with_reducible exact O) | (with_reducible apply Mem.drew) | (with_reducible apply Mem.drewN) | (with_reducible apply Mem.ext) | (with_reducible apply Mem.alloc) | (with_reducible apply Mem.setCell) | (simp only [ptb, ptb_upd, foots_cons, List.mem_cons, World.size_alloc, size_ext, World.size_setCell, true_or, or_true, eq_self_iff_true]))
  · first | with_reducible rfl | (simp only [sel, rst, List.cons_append, List.nil_append, World.size_alloc, size_ext, World.size_setCell, size_setMap, World.size_drew, size_drewN, upd, List.set_cons_zero, List.set_cons_succ, if_true, if_false, reduceIte, not_false_eq_true, ne_lt0, ne_lt1, ne_lt2, ne_lt3, ne_lt4, cs]; done) | (simp only [sel, rst, List.cons_append, List.nil_append, World.size_alloc, size_ext, World.size_setCell, size_setMap, World.size_drew, size_drewN, upd, List.set_cons_zero, List.set_cons_succ, if_true, if_false, reduceIte, not_false_eq_true, ne_lt0, ne_lt1, ne_lt2, ne_lt3, ne_lt4]; done) | (simp only [sel, rst, List.cons_append, List.nil_append, World.size_alloc, size_ext, World.size_setCell, size_setMap, World.size_drew, size_drewN, upd, List.set_cons_zero, List.set_cons_succ, if_true, if_false, reduceIte, not_false_eq_true, ne_lt0, ne_lt1, ne_lt2, ne_lt3, ne_lt4, cs]; rfl) | (simp only [sel, rst, List.cons_append, List.nil_append, World.size_alloc, size_ext, World.size_setCell, size_setMap, World.size_drew, size_drewN, upd, List.set_cons_zero, List.set_cons_succ, if_true, if_false, reduceIte, not_false_eq_true, ne_lt0, ne_lt1, ne_lt2, ne_lt3, ne_lt4]; rfl)
set_option maxRecDepth 100000 in
set_option maxHeartbeats 8000000 in
/-- not counted -/
theorem rp_Promise_no (w : World) (pb : Nat) (A : Option Addr) (c : Nat) (A2 : Option Addr) (c2 : Nat) (p : RP) (f : Int) (b : Ballot) (a : Acc) (h : Pre w (rpL pb A c A2 c2 p)) (hn : p.b.r = 0 ∨ b ≠ p.b ∨ f < 0 ∨ p.n ≤ f) :
    Calls Try.prog 19 #[.pointer (some ⟨pb, 0, none⟩), .int .i64 f, b.val, a.val] w (fun e w' => e = .returned (.tuple #[.string .empty, .bool false]) ∧ Mem w [] w' []) := by
  have H := Lib.hid h
  clear h
  obtain ⟨node, n, ⟨pr, pn⟩, own, from_, l⟩ := p
  obtain ⟨br, bn⟩ := b
  obtain ⟨ai, ⟨ar, an⟩, av⟩ := a
  simp only [Ballot.mk.injEq, ne_eq] at hn
  have hc : pr = 0 ∨ (¬ pr = 0 ∧ ¬ br = pr) ∨ (¬ pr = 0 ∧ br = pr ∧ ¬ bn = pn) ∨ (¬ pr = 0 ∧ br = pr ∧ bn = pn ∧ f < 0) ∨ (¬ pr = 0 ∧ br = pr ∧ bn = pn ∧ ¬ f < 0 ∧ n ≤ f) := by omega
  clear hn
  simp only [Ballot.val, Acc.val]
  have O : Mem w [] w [] := Mem.begin
  skip
  rcases hc with h1 | ⟨h1, h2⟩ | ⟨h1, rfl, h2⟩ | ⟨h1, rfl, rfl, h2⟩ | ⟨h1, rfl, rfl, h2, h3⟩
  all_goals
    try (have h1b : (pr == 0) = false := by simp [h1])
    try (have h1b : (br == 0) = false := by simp [h1])
    try (have h2b : decide (f < 0) = true := by simp [h2])
    try (have h2b : decide (f < 0) = false := by simp; omega)
    go_enter Try.func19, Try.ntmps19
    have cs := O.facts
    simp only [factsP, cellsP, roomP, foots_cons, foots_nil, foots_append, foot_pt, ptb, ptb_mapA, foot_mapA, factsP_mapA, foot_bun, List.append_nil, List.nil_append, List.cons_append, List.nodup_cons, List.nodup_nil, List.mem_cons, List.not_mem_nil, List.mem_singleton, List.forall_mem_cons, not_or, not_false_eq_true, and_true, true_and, or_false, false_or, forall_eq_or_imp, forall_eq, implies_true, Nat.zero_add, Nat.reduceAdd, and_assoc, ptb_listA, factsP_listA, rpL, accCells, intCells, Nat.mul_one] at cs
    have v1 := (H.out.view O.fr).facts
    try simp only [cellsQ, roomP, and_assoc, and_true, true_and, Nat.add_zero, Nat.zero_add, Nat.reduceAdd, factsP, cellsP, roomP, foots_cons, foots_nil, foots_append, foot_pt, ptb, ptb_mapA, foot_mapA, factsP_mapA, foot_bun, List.append_nil, List.nil_append, List.cons_append, List.nodup_cons, List.nodup_nil, List.mem_cons, List.not_mem_nil, List.mem_singleton, List.forall_mem_cons, not_or, not_false_eq_true, and_true, true_and, or_false, false_or, forall_eq_or_imp, forall_eq, implies_true, Nat.zero_add, Nat.reduceAdd, and_assoc, ptb_listA, factsP_listA, rpL, accCells, intCells, Nat.mul_one] at v1
    go_wp2_with fail
    apply region_quiet_mem (by kernel_rfl) (by kernel_rfl)
    case O => repeat' (first | (with_reducible exact O) | (with_reducible apply Mem.drew) | (with_reducible apply Mem.drewN) | (with_reducible apply Mem.ext) | (with_reducible apply Mem.alloc) | (with_reducible apply Mem.setCell) | (simp only [ptb, ptb_upd, foots_cons, List.mem_cons, World.size_alloc, size_ext, World.size_setCell, true_or, or_true, eq_self_iff_true]))
    case' h =>
      intro w1 O'
      (try clear O)
      have O := O'
      clear O'
      (first | simp only [sel, rst, List.cons_append, List.nil_append, World.size_alloc, size_ext, World.size_setCell, size_setMap, World.size_drew, size_drewN, upd, List.set_cons_zero, List.set_cons_succ, if_true, if_false, reduceIte, not_false_eq_true, ne_lt0, ne_lt1, ne_lt2, ne_lt3, ne_lt4, cs] at O | simp only [sel, rst, List.cons_append, List.nil_append, World.size_alloc, size_ext, World.size_setCell, size_setMap, World.size_drew, size_drewN, upd, List.set_cons_zero, List.set_cons_succ, if_true, if_false, reduceIte, not_false_eq_true, ne_lt0, ne_lt1, ne_lt2, ne_lt3, ne_lt4] at O | skip)
      (try clear cs)
      (try clear v1)
      (try clear v2)
      (try clear v3)
    have cs := O.facts
    simp only [factsP, cellsP, roomP, foots_cons, foots_nil, foots_append, foot_pt, ptb, ptb_mapA, foot_mapA, factsP_mapA, foot_bun, List.append_nil, List.nil_append, List.cons_append, List.nodup_cons, List.nodup_nil, List.mem_cons, List.not_mem_nil, List.mem_singleton, List.forall_mem_cons, not_or, not_false_eq_true, and_true, true_and, or_false, false_or, forall_eq_or_imp, forall_eq, implies_true, Nat.zero_add, Nat.reduceAdd, and_assoc, ptb_listA, factsP_listA, rpL, accCells, intCells, Nat.mul_one] at cs
    have v1 := (H.out.view O.fr).facts
    try simp only [cellsQ, roomP, and_assoc, and_true, true_and, Nat.add_zero, Nat.zero_add, Nat.reduceAdd, factsP, cellsP, roomP, foots_cons, foots_nil, foots_append, foot_pt, ptb, ptb_mapA, foot_mapA, factsP_mapA, foot_bun, List.append_nil, List.nil_append, List.cons_append, List.nodup_cons, List.nodup_nil, List.mem_cons, List.not_mem_nil, List.mem_singleton, List.forall_mem_cons, not_or, not_false_eq_true, and_true, true_and, or_false, false_or, forall_eq_or_imp, forall_eq, implies_true, Nat.zero_add, Nat.reduceAdd, and_assoc, ptb_listA, factsP_listA, rpL, accCells, intCells, Nat.mul_one] at v1
    repeat (go_big_quiet_step ((fail)))
    refine wpQuiet_nil ?_
    intro w2 hq
    (try clear cs)
    (try clear v1)
    (try clear v2)
    (try clear v3)
    replace O := O.qext hq
    clear hq
    have cs := O.facts
    simp only [factsP, cellsP, roomP, foots_cons, foots_nil, foots_append, foot_pt, ptb, ptb_mapA, foot_mapA, factsP_mapA, foot_bun, List.append_nil, List.nil_append, List.cons_append, List.nodup_cons, List.nodup_nil, List.mem_cons, List.not_mem_nil, List.mem_singleton, List.forall_mem_cons, not_or, not_false_eq_true, and_true, true_and, or_false, false_or, forall_eq_or_imp, forall_eq, implies_true, Nat.zero_add, Nat.reduceAdd, and_assoc, ptb_listA, factsP_listA, rpL, accCells, intCells, Nat.mul_one] at cs
    have v1 := (H.out.view O.fr).facts
    try simp only [cellsQ, roomP, and_assoc, and_true, true_and, Nat.add_zero, Nat.zero_add, Nat.reduceAdd, factsP, cellsP, roomP, foots_cons, foots_nil, foots_append, foot_pt, ptb, ptb_mapA, foot_mapA, factsP_mapA, foot_bun, List.append_nil, List.nil_append, List.cons_append, List.nodup_cons, List.nodup_nil, List.mem_cons, List.not_mem_nil, List.mem_singleton, List.forall_mem_cons, not_or, not_false_eq_true, and_true, true_and, or_false, false_or, forall_eq_or_imp, forall_eq, implies_true, Nat.zero_add, Nat.reduceAdd, and_assoc, ptb_listA, factsP_listA, rpL, accCells, intCells, Nat.mul_one] at v1
    go_wp2_with fail
    go_ret2
    exact ⟨rfl, O.fr0⟩
set_option maxRecDepth 100000 in
set_option maxHeartbeats 16000000 in
/-- the first n things are not f: what follows the search -/
theorem rp_Promise (w : World) (pb : Nat) (A : Option Addr) (c : Nat) (A2 : Option Addr) (c2 : Nat) (p : RP) (f : Int) (a : Acc) (h : Pre w (rpL pb A c A2 c2 p)) (h0 : ¬ p.b.r = 0) (h1 : 0 ≤ f) (h2 : f < p.n) (h3 : p.n ≤ 9) (hl : p.from_.length ≤ 9) (hl2 : p.l.length = p.from_.length) :
    Calls Try.prog 19 #[.pointer (some ⟨pb, 0, none⟩), .int .i64 f, p.b.val, a.val] w (fun e w' => e = .returned (.tuple #[.string (rpromise p f p.b a).1, .bool (rpromise p f p.b a).2.1]) ∧ ∃ A' c' A2' c2', Mem w (foots (rpL pb A c A2 c2 p)) w' (rpL pb A' c' A2' c2' (rpromise p f p.b a).2.2)) := by
  obtain ⟨fp, hfp⟩ : ∃ F, F = foots (rpL pb A c A2 c2 p) := ⟨_, rfl⟩
  have O : Mem w fp w (rpL pb A c A2 c2 p) := by rw [hfp]; exact h
  rw [← hfp]
  clear hfp h
  obtain ⟨node, n, ⟨pr, pn⟩, own, from_, l⟩ := p
  obtain ⟨ai, ⟨ar, an⟩, av⟩ := a
  simp only at h0 h1 h2 h3 hl hl2
  have hl9 : l.length ≤ 9 := by omega
  have HL2 := Lib.hid hl2
  clear hl2
  obtain ⟨v, hv⟩ : ∃ v, v = rpromise ⟨node, n, ⟨pr, pn⟩, own, from_, l⟩ f ⟨pr, pn⟩ ⟨ai, ⟨ar, an⟩, av⟩ := ⟨_, rfl⟩
  rw [← hv]
  have hcond : ∀ P : Prop, (pr = 0 ∨ (⟨pr, pn⟩ : Ballot) ≠ ⟨pr, pn⟩ ∨ f < 0 ∨ n ≤ f ∨ P) ↔ P := fun P => by
    constructor
    · rintro (h | h | h | h | h)
      · exact absurd h h0
      · exact absurd rfl h
      · omega
      · omega
      · exact h
    · exact fun h => .inr (.inr (.inr (.inr h)))
  simp only [rpromise, hcond] at hv
  clear hcond
  have HV := Lib.hid hv
  clear hv
  simp only [Ballot.val, Acc.val]
  simp only [rpL] at O
  have h1b : (pr == 0) = false := by simp [h0]
  have h2b : decide (f < 0) = false := by simp; omega
  have h3b : decide (n ≤ f) = false := by simp; omega
  skip
  go_enter Try.func19, Try.ntmps19
  have cs := O.facts
  simp only [factsP, cellsP, roomP, foots_cons, foots_nil, foots_append, foot_pt, ptb, ptb_mapA, foot_mapA, factsP_mapA, foot_bun, List.append_nil, List.nil_append, List.cons_append, List.nodup_cons, List.nodup_nil, List.mem_cons, List.not_mem_nil, List.mem_singleton, List.forall_mem_cons, not_or, not_false_eq_true, and_true, true_and, or_false, false_or, forall_eq_or_imp, forall_eq, implies_true, Nat.zero_add, Nat.reduceAdd, and_assoc, ptb_listA, factsP_listA, rpL, accCells, intCells, Nat.mul_one] at cs
  go_wp2_with fail
  apply region_quiet_mem (by kernel_rfl) (by kernel_rfl)
  case O => repeat' (first | (with_reducible exact O) | (with_reducible apply Mem.drew) | (with_reducible apply Mem.drewN) | (with_reducible apply Mem.ext) | (with_reducible apply Mem.alloc) | (with_reducible apply Mem.setCell) | (simp only [ptb, ptb_upd, foots_cons, List.mem_cons, World.size_alloc, size_ext, World.size_setCell, true_or, or_true, eq_self_iff_true]))
  case' h =>
    intro w1 O'
    (try clear O)
    have O := O'
    clear O'
    (first | simp only [sel, rst, List.cons_append, List.nil_append, World.size_alloc, size_ext, World.size_setCell, size_setMap, World.size_drew, size_drewN, upd, List.set_cons_zero, List.set_cons_succ, if_true, if_false, reduceIte, not_false_eq_true, ne_lt0, ne_lt1, ne_lt2, ne_lt3, ne_lt4, cs] at O | simp only [sel, rst, List.cons_append, List.nil_append, World.size_alloc, size_ext, World.size_setCell, size_setMap, World.size_drew, size_drewN, upd, List.set_cons_zero, List.set_cons_succ, if_true, if_false, reduceIte, not_false_eq_true, ne_lt0, ne_lt1, ne_lt2, ne_lt3, ne_lt4] at O | skip)
    (try clear cs)
    (try clear v1)
    (try clear v2)
    (try clear v3)
  have cs := O.facts
  simp only [factsP, cellsP, roomP, foots_cons, foots_nil, foots_append, foot_pt, ptb, ptb_mapA, foot_mapA, factsP_mapA, foot_bun, List.append_nil, List.nil_append, List.cons_append, List.nodup_cons, List.nodup_nil, List.mem_cons, List.not_mem_nil, List.mem_singleton, List.forall_mem_cons, not_or, not_false_eq_true, and_true, true_and, or_false, false_or, forall_eq_or_imp, forall_eq, implies_true, Nat.zero_add, Nat.reduceAdd, and_assoc, ptb_listA, factsP_listA, rpL, accCells, intCells, Nat.mul_one] at cs
  repeat (go_big_quiet_step ((fail)))
  refine wpQuiet_nil ?_
  intro w2 hq
  (try clear cs)
  (try clear v1)
  (try clear v2)
  (try clear v3)
  replace O := O.qext hq
  clear hq
  have cs := O.facts
  simp only [factsP, cellsP, roomP, foots_cons, foots_nil, foots_append, foot_pt, ptb, ptb_mapA, foot_mapA, factsP_mapA, foot_bun, List.append_nil, List.nil_append, List.cons_append, List.nodup_cons, List.nodup_nil, List.mem_cons, List.not_mem_nil, List.mem_singleton, List.forall_mem_cons, not_or, not_false_eq_true, and_true, true_and, or_false, false_or, forall_eq_or_imp, forall_eq, implies_true, Nat.zero_add, Nat.reduceAdd, and_assoc, ptb_listA, factsP_listA, rpL, accCells, intCells, Nat.mul_one] at cs
  go_wp2_with fail
  go_loopw [10] (fun s10 wr => ∃ k : Nat, k ≤ from_.length ∧ s10 = .int .i64 k ∧ Mem w fp wr [.pt (w.heap.size + 1) [.bool ai, .int .u32 ar, .int .u8 an, .string av] 36, .pt w.heap.size [.int .u32 pr, .int .u8 pn] 31, .pt pb [.int .i64 node, .int .i64 n, .int .u32 pr, .int .u8 pn, .string own, .slice A from_.length c, .slice A2 l.length c2] 56, listA 3 1 intCells A c from_, listA 36 4 accCells A2 c2 l] ∧ Hid (f ∉ from_.take k)) (fun s10 _ => from_.length - (intOf s10).toNat)
  case atStart => exact ⟨0, by omega, rfl, O, Lib.hid (by simp)⟩
  case round =>
    clear O
    obtain ⟨k, hk, rfl, O, HN⟩ := hrel
    by_cases hlt : k < from_.length
    · obtain ⟨x, hx⟩ : ∃ x, from_[k]? = some x := ⟨_, List.getElem?_eq_getElem hlt⟩
      obtain ⟨g, rfl, _⟩ := listA_get (cs := intCells) (fun _ => rfl) (O.hold (listA 3 1 intCells A c from_) (by simp)) hx
      have htk : from_.take (k + 1) = from_.take k ++ [x] := by
        rw [List.take_succ_eq_append_getElem hlt, (List.getElem?_eq_some_iff.1 hx).2]
      have HTK := Lib.hid htk
      have HX := Lib.hid hx
      clear htk hx
      skip
      by_cases hxf : x = f
      · subst hxf
        have hv := HV.out
        rw [if_pos (List.mem_of_getElem? HX.out)] at hv
        subst hv
        have cs := O.facts
        simp only [factsP, cellsP, roomP, foots_cons, foots_nil, foots_append, foot_pt, ptb, ptb_mapA, foot_mapA, factsP_mapA, foot_bun, List.append_nil, List.nil_append, List.cons_append, List.nodup_cons, List.nodup_nil, List.mem_cons, List.not_mem_nil, List.mem_singleton, List.forall_mem_cons, not_or, not_false_eq_true, and_true, true_and, or_false, false_or, forall_eq_or_imp, forall_eq, implies_true, Nat.zero_add, Nat.reduceAdd, and_assoc, ptb_listA, factsP_listA, rpL, accCells, intCells, Nat.mul_one] at cs
        have v1 := (listA_at (cs := intCells) (fun _ => rfl) (O.hold (listA 3 1 intCells (some ⟨g, 0, none⟩) c from_) (by simp)) HX.out)
        try simp only [cellsQ, roomP, and_assoc, and_true, true_and, Nat.add_zero, Nat.zero_add, Nat.reduceAdd, factsP, cellsP, roomP, foots_cons, foots_nil, foots_append, foot_pt, ptb, ptb_mapA, foot_mapA, factsP_mapA, foot_bun, List.append_nil, List.nil_append, List.cons_append, List.nodup_cons, List.nodup_nil, List.mem_cons, List.not_mem_nil, List.mem_singleton, List.forall_mem_cons, not_or, not_false_eq_true, and_true, true_and, or_false, false_or, forall_eq_or_imp, forall_eq, implies_true, Nat.zero_add, Nat.reduceAdd, and_assoc, ptb_listA, factsP_listA, rpL, accCells, intCells, Nat.mul_one] at v1
        go_wp2_with fail
        go_ret2
        exact ⟨rfl, _, _, _, _, O.sel [false, false, true, true, true]⟩
      · have cs := O.facts
        simp only [factsP, cellsP, roomP, foots_cons, foots_nil, foots_append, foot_pt, ptb, ptb_mapA, foot_mapA, factsP_mapA, foot_bun, List.append_nil, List.nil_append, List.cons_append, List.nodup_cons, List.nodup_nil, List.mem_cons, List.not_mem_nil, List.mem_singleton, List.forall_mem_cons, not_or, not_false_eq_true, and_true, true_and, or_false, false_or, forall_eq_or_imp, forall_eq, implies_true, Nat.zero_add, Nat.reduceAdd, and_assoc, ptb_listA, factsP_listA, rpL, accCells, intCells, Nat.mul_one] at cs
        have v1 := (listA_at (cs := intCells) (fun _ => rfl) (O.hold (listA 3 1 intCells (some ⟨g, 0, none⟩) c from_) (by simp)) HX.out)
        try simp only [cellsQ, roomP, and_assoc, and_true, true_and, Nat.add_zero, Nat.zero_add, Nat.reduceAdd, factsP, cellsP, roomP, foots_cons, foots_nil, foots_append, foot_pt, ptb, ptb_mapA, foot_mapA, factsP_mapA, foot_bun, List.append_nil, List.nil_append, List.cons_append, List.nodup_cons, List.nodup_nil, List.mem_cons, List.not_mem_nil, List.mem_singleton, List.forall_mem_cons, not_or, not_false_eq_true, and_true, true_and, or_false, false_or, forall_eq_or_imp, forall_eq, implies_true, Nat.zero_add, Nat.reduceAdd, and_assoc, ptb_listA, factsP_listA, rpL, accCells, intCells, Nat.mul_one] at v1
        go_wp2_with fail
        go_roundw
        case rel => exact ⟨k + 1, by omega, by go_num, O, Lib.hid (by rw [HTK.out, List.mem_append]; have := HN.out; simp [this]; exact fun h => hxf h.symm)⟩
        case measure => simp [intOf]; omega
    · obtain rfl : k = from_.length := by omega
      have hv := HV.out
      have hnf : f ∉ from_ := by simpa using HN.out
      rw [if_neg hnf] at hv
      have HV2 := Lib.hid hv
      clear hv HV HN
      skip
      have cs := O.facts
      simp only [factsP, cellsP, roomP, foots_cons, foots_nil, foots_append, foot_pt, ptb, ptb_mapA, foot_mapA, factsP_mapA, foot_bun, List.append_nil, List.nil_append, List.cons_append, List.nodup_cons, List.nodup_nil, List.mem_cons, List.not_mem_nil, List.mem_singleton, List.forall_mem_cons, not_or, not_false_eq_true, and_true, true_and, or_false, false_or, forall_eq_or_imp, forall_eq, implies_true, Nat.zero_add, Nat.reduceAdd, and_assoc, ptb_listA, factsP_listA, rpL, accCells, intCells, Nat.mul_one] at cs
      go_upto_region 9 with ((at_builtin; refine intTy.wl_app ((O.alloc (intCells f) 3).front1 [false, false, false, false, true] rfl) rfl rfl rfl rfl [f] rfl rfl (src_one (fun _ => rfl) (O.alloc (intCells f) 3) (List.mem_cons_self ..)) (by simp; omega) ?_; intro A1 c1 w4 O4; have cs1 := O4.facts; simp only [rst, factsP, cellsP, roomP, foots_cons, foots_nil, foots_append, foot_pt, ptb, ptb_mapA, foot_mapA, factsP_mapA, foot_bun, List.append_nil, List.nil_append, List.cons_append, List.nodup_cons, List.nodup_nil, List.mem_cons, List.not_mem_nil, List.mem_singleton, List.forall_mem_cons, not_or, not_false_eq_true, and_true, true_and, or_false, false_or, forall_eq_or_imp, forall_eq, implies_true, Nat.zero_add, Nat.reduceAdd, and_assoc, ptb_listA, factsP_listA, rpL, accCells, intCells, Nat.mul_one] at cs1))
      clear cs O
      have cs := cs1
      clear cs1
      have O := O4.unfront
      simp only [put, List.cons_append, List.nil_append] at O
      clear O4
      first | apply Mem.atCall | apply Mem.atCode | apply Mem.atList
      case h => repeat' (first | (with_reducible exact O) | (with_reducible apply Mem.drew) | (with_reducible apply Mem.drewN) | (with_reducible apply Mem.ext) | (with_reducible apply Mem.alloc) | (with_reducible apply Mem.setCell) | (simp only [ptb, ptb_upd, foots_cons, List.mem_cons, World.size_alloc, size_ext, World.size_setCell, true_or, or_true, eq_self_iff_true]))
      case' k =>
        intro w5 O'
        (try clear O)
        have O := O'
        clear O'
        (first | simp only [sel, rst, List.cons_append, List.nil_append, World.size_alloc, size_ext, World.size_setCell, size_setMap, World.size_drew, size_drewN, upd, List.set_cons_zero, List.set_cons_succ, if_true, if_false, reduceIte, not_false_eq_true, ne_lt0, ne_lt1, ne_lt2, ne_lt3, ne_lt4, cs] at O | simp only [sel, rst, List.cons_append, List.nil_append, World.size_alloc, size_ext, World.size_setCell, size_setMap, World.size_drew, size_drewN, upd, List.set_cons_zero, List.set_cons_succ, if_true, if_false, reduceIte, not_false_eq_true, ne_lt0, ne_lt1, ne_lt2, ne_lt3, ne_lt4] at O | skip)
        (try clear cs)
        (try clear v1)
        (try clear v2)
        (try clear v3)
      replace O := O.sel [false, true, true, true, true, true]
      simp only [sel] at O
      obtain ⟨fr2, hfr2⟩ : ∃ x, x = from_ ++ [f] := ⟨_, rfl⟩
      rw [← hfr2] at O HV2
      have HKF := Lib.hid (show fr2.length = from_.length + 1 by rw [hfr2]; simp)
      clear hfr2
      apply region_held_mem [] (by kernel_rfl)
      case O => repeat' (first | (with_reducible exact O) | (with_reducible apply Mem.drew) | (with_reducible apply Mem.drewN) | (with_reducible apply Mem.ext) | (with_reducible apply Mem.alloc) | (with_reducible apply Mem.setCell) | (simp only [ptb, ptb_upd, foots_cons, List.mem_cons, World.size_alloc, size_ext, World.size_setCell, true_or, or_true, eq_self_iff_true]))
      case' h =>
        intro wr1 O'
        (try clear O)
        have O := O'
        clear O'
        (first | simp only [sel, rst, List.cons_append, List.nil_append, World.size_alloc, size_ext, World.size_setCell, size_setMap, World.size_drew, size_drewN, upd, List.set_cons_zero, List.set_cons_succ, if_true, if_false, reduceIte, not_false_eq_true, ne_lt0, ne_lt1, ne_lt2, ne_lt3, ne_lt4, cs] at O | simp only [sel, rst, List.cons_append, List.nil_append, World.size_alloc, size_ext, World.size_setCell, size_setMap, World.size_drew, size_drewN, upd, List.set_cons_zero, List.set_cons_succ, if_true, if_false, reduceIte, not_false_eq_true, ne_lt0, ne_lt1, ne_lt2, ne_lt3, ne_lt4] at O | skip)
        (try clear cs)
        (try clear v1)
        (try clear v2)
        (try clear v3)
      refine takeH (i := 0) (v := ?v1_1) rfl (by kernel_rfl) (by kernel_rfl) (by kernel_rfl) (fun _ _ _ h => h) (by rfl) ?y1_1 (O.sel []) ?r1_1
      case y1_1 =>
        intro WW hSw
        (go_simp) <;> (with_reducible rfl)
      case' r1_1 =>
        try simp only [Act.put, List.setIfInBounds_toArray, List.set_cons_zero, List.set_cons_succ]
      refine takeH (i := 1) (v := ?v1_2) rfl (by kernel_rfl) (by kernel_rfl) (by kernel_rfl) (fun _ _ _ h => h) (by rfl) ?y1_2 (O.sel []) ?r1_2
      case y1_2 =>
        intro WW hSw
        (go_simp) <;> (with_reducible rfl)
      case' r1_2 =>
        try simp only [Act.put, List.setIfInBounds_toArray, List.set_cons_zero, List.set_cons_succ]
      refine takeH (i := 2) (v := ?v1_3) rfl (by kernel_rfl) (by kernel_rfl) (by kernel_rfl) (fun _ _ _ h => h) (by rfl) ?y1_3 (O.sel []) ?r1_3
      case y1_3 =>
        intro WW hSw
        (go_simp) <;> (with_reducible rfl)
      case' r1_3 =>
        try simp only [Act.put, List.setIfInBounds_toArray, List.set_cons_zero, List.set_cons_succ]
      refine takeH (i := 3) (v := ?v1_4) rfl (by kernel_rfl) (by kernel_rfl) (by kernel_rfl) (fun _ _ _ h => h) (by rfl) ?y1_4 (O.sel []) ?r1_4
      case y1_4 =>
        intro WW hSw
        (go_simp) <;> (with_reducible rfl)
      case' r1_4 =>
        try simp only [Act.put, List.setIfInBounds_toArray, List.set_cons_zero, List.set_cons_succ]
      apply cutT1
      case main =>
        intro hT1_0
        apply cutT0
        case main =>
          intro hT1_1
          refine wpAnyH_ready (rs := [4, 5]) (by kernel_rfl) (by simp) ?_
          refine consH rfl (fun K hK => ?_) ?_
          · have cs := O.facts
            simp only [factsP, cellsP, roomP, foots_cons, foots_nil, foots_append, foot_pt, ptb, ptb_mapA, foot_mapA, factsP_mapA, foot_bun, List.append_nil, List.nil_append, List.cons_append, List.nodup_cons, List.nodup_nil, List.mem_cons, List.not_mem_nil, List.mem_singleton, List.forall_mem_cons, not_or, not_false_eq_true, and_true, true_and, or_false, false_or, forall_eq_or_imp, forall_eq, implies_true, Nat.zero_add, Nat.reduceAdd, and_assoc, ptb_listA, factsP_listA, rpL, accCells, intCells, Nat.mul_one] at cs
            go_simp
            apply Mem.atK
            case h => repeat' (first | (with_reducible exact O) | (with_reducible apply Mem.drew) | (with_reducible apply Mem.drewN) | (with_reducible apply Mem.ext) | (with_reducible apply Mem.alloc) | (with_reducible apply Mem.setCell) | (simp only [ptb, ptb_upd, foots_cons, List.mem_cons, World.size_alloc, size_ext, World.size_setCell, true_or, or_true, eq_self_iff_true]))
            intro w1_5 O'
            (try clear O)
            have O := O'
            clear O'
            (first | simp only [sel, rst, List.cons_append, List.nil_append, World.size_alloc, size_ext, World.size_setCell, size_setMap, World.size_drew, size_drewN, upd, List.set_cons_zero, List.set_cons_succ, if_true, if_false, reduceIte, not_false_eq_true, ne_lt0, ne_lt1, ne_lt2, ne_lt3, ne_lt4, cs] at O | simp only [sel, rst, List.cons_append, List.nil_append, World.size_alloc, size_ext, World.size_setCell, size_setMap, World.size_drew, size_drewN, upd, List.set_cons_zero, List.set_cons_succ, if_true, if_false, reduceIte, not_false_eq_true, ne_lt0, ne_lt1, ne_lt2, ne_lt3, ne_lt4] at O | skip)
            (try clear cs)
            (try clear v1)
            (try clear v2)
            (try clear v3)
            refine hK.out _ _ (O.sel []) (fun _ => ?_)
            clear hK K
            refine wpAnyH_ready (rs := [5]) (by kernel_rfl) (by simp) ?_
            refine consH rfl (fun K hK => ?_) AllReadyH.nil
            have cs := O.facts
            simp only [factsP, cellsP, roomP, foots_cons, foots_nil, foots_append, foot_pt, ptb, ptb_mapA, foot_mapA, factsP_mapA, foot_bun, List.append_nil, List.nil_append, List.cons_append, List.nodup_cons, List.nodup_nil, List.mem_cons, List.not_mem_nil, List.mem_singleton, List.forall_mem_cons, not_or, not_false_eq_true, and_true, true_and, or_false, false_or, forall_eq_or_imp, forall_eq, implies_true, Nat.zero_add, Nat.reduceAdd, and_assoc, ptb_listA, factsP_listA, rpL, accCells, intCells, Nat.mul_one] at cs
            go_simp
            apply Mem.atK
            case h => repeat' (first | (with_reducible exact O) | (with_reducible apply Mem.drew) | (with_reducible apply Mem.drewN) | (with_reducible apply Mem.ext) | (with_reducible apply Mem.alloc) | (with_reducible apply Mem.setCell) | (simp only [ptb, ptb_upd, foots_cons, List.mem_cons, World.size_alloc, size_ext, World.size_setCell, true_or, or_true, eq_self_iff_true]))
            intro w1_6 O'
            (try clear O)
            have O := O'
            clear O'
            (first | simp only [sel, rst, List.cons_append, List.nil_append, World.size_alloc, size_ext, World.size_setCell, size_setMap, World.size_drew, size_drewN, upd, List.set_cons_zero, List.set_cons_succ, if_true, if_false, reduceIte, not_false_eq_true, ne_lt0, ne_lt1, ne_lt2, ne_lt3, ne_lt4, cs] at O | simp only [sel, rst, List.cons_append, List.nil_append, World.size_alloc, size_ext, World.size_setCell, size_setMap, World.size_drew, size_drewN, upd, List.set_cons_zero, List.set_cons_succ, if_true, if_false, reduceIte, not_false_eq_true, ne_lt0, ne_lt1, ne_lt2, ne_lt3, ne_lt4] at O | skip)
            (try clear cs)
            (try clear v1)
            (try clear v2)
            (try clear v3)
            refine hK.out _ _ (O.sel []) (fun _ => ?_)
            clear hK K
            revert O
            exact hT1_1.out  w1_6
          refine consH rfl (fun K hK => ?_) ?_
          · have cs := O.facts
            simp only [factsP, cellsP, roomP, foots_cons, foots_nil, foots_append, foot_pt, ptb, ptb_mapA, foot_mapA, factsP_mapA, foot_bun, List.append_nil, List.nil_append, List.cons_append, List.nodup_cons, List.nodup_nil, List.mem_cons, List.not_mem_nil, List.mem_singleton, List.forall_mem_cons, not_or, not_false_eq_true, and_true, true_and, or_false, false_or, forall_eq_or_imp, forall_eq, implies_true, Nat.zero_add, Nat.reduceAdd, and_assoc, ptb_listA, factsP_listA, rpL, accCells, intCells, Nat.mul_one] at cs
            go_simp
            apply Mem.atK
            case h => repeat' (first | (with_reducible exact O) | (with_reducible apply Mem.drew) | (with_reducible apply Mem.drewN) | (with_reducible apply Mem.ext) | (with_reducible apply Mem.alloc) | (with_reducible apply Mem.setCell) | (simp only [ptb, ptb_upd, foots_cons, List.mem_cons, World.size_alloc, size_ext, World.size_setCell, true_or, or_true, eq_self_iff_true]))
            intro w1_7 O'
            (try clear O)
            have O := O'
            clear O'
            (first | simp only [sel, rst, List.cons_append, List.nil_append, World.size_alloc, size_ext, World.size_setCell, size_setMap, World.size_drew, size_drewN, upd, List.set_cons_zero, List.set_cons_succ, if_true, if_false, reduceIte, not_false_eq_true, ne_lt0, ne_lt1, ne_lt2, ne_lt3, ne_lt4, cs] at O | simp only [sel, rst, List.cons_append, List.nil_append, World.size_alloc, size_ext, World.size_setCell, size_setMap, World.size_drew, size_drewN, upd, List.set_cons_zero, List.set_cons_succ, if_true, if_false, reduceIte, not_false_eq_true, ne_lt0, ne_lt1, ne_lt2, ne_lt3, ne_lt4] at O | skip)
            (try clear cs)
            (try clear v1)
            (try clear v2)
            (try clear v3)
            refine hK.out _ _ (O.sel []) (fun _ => ?_)
            clear hK K
            refine wpAnyH_ready (rs := [4, 6]) (by kernel_rfl) (by simp) ?_
            refine consH rfl (fun K hK => ?_) ?_
            · have cs := O.facts
              simp only [factsP, cellsP, roomP, foots_cons, foots_nil, foots_append, foot_pt, ptb, ptb_mapA, foot_mapA, factsP_mapA, foot_bun, List.append_nil, List.nil_append, List.cons_append, List.nodup_cons, List.nodup_nil, List.mem_cons, List.not_mem_nil, List.mem_singleton, List.forall_mem_cons, not_or, not_false_eq_true, and_true, true_and, or_false, false_or, forall_eq_or_imp, forall_eq, implies_true, Nat.zero_add, Nat.reduceAdd, and_assoc, ptb_listA, factsP_listA, rpL, accCells, intCells, Nat.mul_one] at cs
              go_simp
              apply Mem.atK
              case h => repeat' (first | (with_reducible exact O) | (with_reducible apply Mem.drew) | (with_reducible apply Mem.drewN) | (with_reducible apply Mem.ext) | (with_reducible apply Mem.alloc) | (with_reducible apply Mem.setCell) | (simp only [ptb, ptb_upd, foots_cons, List.mem_cons, World.size_alloc, size_ext, World.size_setCell, true_or, or_true, eq_self_iff_true]))
              intro w1_8 O'
              (try clear O)
              have O := O'
              clear O'
              (first | simp only [sel, rst, List.cons_append, List.nil_append, World.size_alloc, size_ext, World.size_setCell, size_setMap, World.size_drew, size_drewN, upd, List.set_cons_zero, List.set_cons_succ, if_true, if_false, reduceIte, not_false_eq_true, ne_lt0, ne_lt1, ne_lt2, ne_lt3, ne_lt4, cs] at O | simp only [sel, rst, List.cons_append, List.nil_append, World.size_alloc, size_ext, World.size_setCell, size_setMap, World.size_drew, size_drewN, upd, List.set_cons_zero, List.set_cons_succ, if_true, if_false, reduceIte, not_false_eq_true, ne_lt0, ne_lt1, ne_lt2, ne_lt3, ne_lt4] at O | skip)
              (try clear cs)
              (try clear v1)
              (try clear v2)
              (try clear v3)
              refine hK.out _ _ (O.sel []) (fun _ => ?_)
              clear hK K
              revert O
              exact hT1_1.out  w1_8
            refine consH rfl (fun K hK => ?_) ?_
            · have cs := O.facts
              simp only [factsP, cellsP, roomP, foots_cons, foots_nil, foots_append, foot_pt, ptb, ptb_mapA, foot_mapA, factsP_mapA, foot_bun, List.append_nil, List.nil_append, List.cons_append, List.nodup_cons, List.nodup_nil, List.mem_cons, List.not_mem_nil, List.mem_singleton, List.forall_mem_cons, not_or, not_false_eq_true, and_true, true_and, or_false, false_or, forall_eq_or_imp, forall_eq, implies_true, Nat.zero_add, Nat.reduceAdd, and_assoc, ptb_listA, factsP_listA, rpL, accCells, intCells, Nat.mul_one] at cs
              go_simp
              apply Mem.atK
              case h => repeat' (first | (with_reducible exact O) | (with_reducible apply Mem.drew) | (with_reducible apply Mem.drewN) | (with_reducible apply Mem.ext) | (with_reducible apply Mem.alloc) | (with_reducible apply Mem.setCell) | (simp only [ptb, ptb_upd, foots_cons, List.mem_cons, World.size_alloc, size_ext, World.size_setCell, true_or, or_true, eq_self_iff_true]))
              intro w1_9 O'
              (try clear O)
              have O := O'
              clear O'
              (first | simp only [sel, rst, List.cons_append, List.nil_append, World.size_alloc, size_ext, World.size_setCell, size_setMap, World.size_drew, size_drewN, upd, List.set_cons_zero, List.set_cons_succ, if_true, if_false, reduceIte, not_false_eq_true, ne_lt0, ne_lt1, ne_lt2, ne_lt3, ne_lt4, cs] at O | simp only [sel, rst, List.cons_append, List.nil_append, World.size_alloc, size_ext, World.size_setCell, size_setMap, World.size_drew, size_drewN, upd, List.set_cons_zero, List.set_cons_succ, if_true, if_false, reduceIte, not_false_eq_true, ne_lt0, ne_lt1, ne_lt2, ne_lt3, ne_lt4] at O | skip)
              (try clear cs)
              (try clear v1)
              (try clear v2)
              (try clear v3)
              generalize w1_7.heap.size = p1_10 at O ⊢
              refine hK.out _ _ (O.sel [false]) (fun _ => ?_)
              clear hK K
              refine wpAnyH_ready (rs := [4]) (by kernel_rfl) (by simp) ?_
              refine consH rfl (fun K hK => ?_) AllReadyH.nil
              have cs := O.facts
              simp only [factsP, cellsP, roomP, foots_cons, foots_nil, foots_append, foot_pt, ptb, ptb_mapA, foot_mapA, factsP_mapA, foot_bun, List.append_nil, List.nil_append, List.cons_append, List.nodup_cons, List.nodup_nil, List.mem_cons, List.not_mem_nil, List.mem_singleton, List.forall_mem_cons, not_or, not_false_eq_true, and_true, true_and, or_false, false_or, forall_eq_or_imp, forall_eq, implies_true, Nat.zero_add, Nat.reduceAdd, and_assoc, ptb_listA, factsP_listA, rpL, accCells, intCells, Nat.mul_one] at cs
              go_simp
              apply Mem.atK
              case h => repeat' (first | (with_reducible exact O) | (with_reducible apply Mem.drew) | (with_reducible apply Mem.drewN) | (with_reducible apply Mem.ext) | (with_reducible apply Mem.alloc) | (with_reducible apply Mem.setCell) | (simp only [ptb, ptb_upd, foots_cons, List.mem_cons, World.size_alloc, size_ext, World.size_setCell, true_or, or_true, eq_self_iff_true]))
              intro w1_11 O'
              (try clear O)
              have O := O'
              clear O'
              (first | simp only [sel, rst, List.cons_append, List.nil_append, World.size_alloc, size_ext, World.size_setCell, size_setMap, World.size_drew, size_drewN, upd, List.set_cons_zero, List.set_cons_succ, if_true, if_false, reduceIte, not_false_eq_true, ne_lt0, ne_lt1, ne_lt2, ne_lt3, ne_lt4, cs] at O | simp only [sel, rst, List.cons_append, List.nil_append, World.size_alloc, size_ext, World.size_setCell, size_setMap, World.size_drew, size_drewN, upd, List.set_cons_zero, List.set_cons_succ, if_true, if_false, reduceIte, not_false_eq_true, ne_lt0, ne_lt1, ne_lt2, ne_lt3, ne_lt4] at O | skip)
              (try clear cs)
              (try clear v1)
              (try clear v2)
              (try clear v3)
              refine hK.out _ _ (O.sel [false]) (fun _ => ?_)
              clear hK K
              revert O
              exact hT1_0.out p1_10 w1_11
            exact AllReadyH.nil
          exact AllReadyH.nil
        case' tail =>
          intro w1_12 O
          refine wpAnyH_ready (rs := [6]) (by kernel_rfl) (by simp) ?_
          refine consH rfl (fun K hK => ?_) AllReadyH.nil
          have cs := O.facts
          simp only [factsP, cellsP, roomP, foots_cons, foots_nil, foots_append, foot_pt, ptb, ptb_mapA, foot_mapA, factsP_mapA, foot_bun, List.append_nil, List.nil_append, List.cons_append, List.nodup_cons, List.nodup_nil, List.mem_cons, List.not_mem_nil, List.mem_singleton, List.forall_mem_cons, not_or, not_false_eq_true, and_true, true_and, or_false, false_or, forall_eq_or_imp, forall_eq, implies_true, Nat.zero_add, Nat.reduceAdd, and_assoc, ptb_listA, factsP_listA, rpL, accCells, intCells, Nat.mul_one] at cs
          go_simp
          apply Mem.atK
          case h => repeat' (first | (with_reducible exact O) | (with_reducible apply Mem.drew) | (with_reducible apply Mem.drewN) | (with_reducible apply Mem.ext) | (with_reducible apply Mem.alloc) | (with_reducible apply Mem.setCell) | (simp only [ptb, ptb_upd, foots_cons, List.mem_cons, World.size_alloc, size_ext, World.size_setCell, true_or, or_true, eq_self_iff_true]))
          intro w1_13 O'
          (try clear O)
          have O := O'
          clear O'
          (first | simp only [sel, rst, List.cons_append, List.nil_append, World.size_alloc, size_ext, World.size_setCell, size_setMap, World.size_drew, size_drewN, upd, List.set_cons_zero, List.set_cons_succ, if_true, if_false, reduceIte, not_false_eq_true, ne_lt0, ne_lt1, ne_lt2, ne_lt3, ne_lt4, cs] at O | simp only [sel, rst, List.cons_append, List.nil_append, World.size_alloc, size_ext, World.size_setCell, size_setMap, World.size_drew, size_drewN, upd, List.set_cons_zero, List.set_cons_succ, if_true, if_false, reduceIte, not_false_eq_true, ne_lt0, ne_lt1, ne_lt2, ne_lt3, ne_lt4] at O | skip)
          (try clear cs)
          (try clear v1)
          (try clear v2)
          (try clear v3)
          generalize w1_12.heap.size = p1_14 at O ⊢
          refine hK.out _ _ (O.sel [false]) (fun _ => ?_)
          clear hK K
          revert O
          exact hT1_0.out p1_14 w1_13
      case' tail =>
        intro q1_15 w1_16 O
      refine wpAnyH_ready (rs := [7]) (by kernel_rfl) (by simp) ?_
      refine consH rfl (fun K hK => ?_) AllReadyH.nil
      have cs := O.facts
      simp only [factsP, cellsP, roomP, foots_cons, foots_nil, foots_append, foot_pt, ptb, ptb_mapA, foot_mapA, factsP_mapA, foot_bun, List.append_nil, List.nil_append, List.cons_append, List.nodup_cons, List.nodup_nil, List.mem_cons, List.not_mem_nil, List.mem_singleton, List.forall_mem_cons, not_or, not_false_eq_true, and_true, true_and, or_false, false_or, forall_eq_or_imp, forall_eq, implies_true, Nat.zero_add, Nat.reduceAdd, and_assoc, ptb_listA, factsP_listA, rpL, accCells, intCells, Nat.mul_one] at cs
      (try clear cs)
      (try clear v1)
      (try clear v2)
      (try clear v3)
      refine accTy.if_app (O.front1 [false, false, false, false, false, true] rfl) rfl rfl rfl rfl [⟨ai, ⟨ar, an⟩, av⟩] rfl rfl (src_one (x := (⟨ai, ⟨ar, an⟩, av⟩ : Acc)) (fun _ => rfl) O (List.mem_cons_self ..)) (by have := HL2.out; simp; omega) ?_
      intro A2' c2' w1_17 O'
      (try clear O)
      have O := O'.unfront
      clear O'
      simp only [put, List.cons_append, List.nil_append] at O
      refine hK.out _ _ (O.sel [false]) (fun _ => ?_)
      clear hK K
      refine takeH (i := 8) (v := ?v1_18) rfl (by kernel_rfl) (by kernel_rfl) (by kernel_rfl) (fun _ _ _ h => h) (by rfl) ?y1_18 (O.sel [false]) ?r1_18
      case y1_18 =>
        intro WW hSw
        (go_simp) <;> (with_reducible rfl)
      case' r1_18 =>
        try simp only [Act.put, List.setIfInBounds_toArray, List.set_cons_zero, List.set_cons_succ]
      refine takeH (i := 9) (v := ?v1_19) rfl (by kernel_rfl) (by kernel_rfl) (by kernel_rfl) (fun _ _ _ h => h) (by rfl) ?y1_19 (O.sel [false]) ?r1_19
      case y1_19 =>
        intro WW hSw
        (go_simp) <;> (with_reducible rfl)
      case' r1_19 =>
        try simp only [Act.put, List.setIfInBounds_toArray, List.set_cons_zero, List.set_cons_succ]
      refine wpAnyH_ready (rs := [10]) (by kernel_rfl) (by simp) ?_
      refine consH rfl (fun K hK => ?_) AllReadyH.nil
      have cs := O.facts
      simp only [factsP, cellsP, roomP, foots_cons, foots_nil, foots_append, foot_pt, ptb, ptb_mapA, foot_mapA, factsP_mapA, foot_bun, List.append_nil, List.nil_append, List.cons_append, List.nodup_cons, List.nodup_nil, List.mem_cons, List.not_mem_nil, List.mem_singleton, List.forall_mem_cons, not_or, not_false_eq_true, and_true, true_and, or_false, false_or, forall_eq_or_imp, forall_eq, implies_true, Nat.zero_add, Nat.reduceAdd, and_assoc, ptb_listA, factsP_listA, rpL, accCells, intCells, Nat.mul_one] at cs
      go_simp
      apply Mem.atK
      case h => repeat' (first | (with_reducible exact O) | (with_reducible apply Mem.drew) | (with_reducible apply Mem.drewN) | (with_reducible apply Mem.ext) | (with_reducible apply Mem.alloc) | (with_reducible apply Mem.setCell) | (simp only [ptb, ptb_upd, foots_cons, List.mem_cons, World.size_alloc, size_ext, World.size_setCell, true_or, or_true, eq_self_iff_true]))
      intro w1_20 O'
      (try clear O)
      have O := O'
      clear O'
      (first | simp only [sel, rst, List.cons_append, List.nil_append, World.size_alloc, size_ext, World.size_setCell, size_setMap, World.size_drew, size_drewN, upd, List.set_cons_zero, List.set_cons_succ, if_true, if_false, reduceIte, not_false_eq_true, ne_lt0, ne_lt1, ne_lt2, ne_lt3, ne_lt4, cs] at O | simp only [sel, rst, List.cons_append, List.nil_append, World.size_alloc, size_ext, World.size_setCell, size_setMap, World.size_drew, size_drewN, upd, List.set_cons_zero, List.set_cons_succ, if_true, if_false, reduceIte, not_false_eq_true, ne_lt0, ne_lt1, ne_lt2, ne_lt3, ne_lt4] at O | skip)
      (try clear cs)
      (try clear v1)
      (try clear v2)
      (try clear v3)
      refine hK.out _ _ (O.sel [false]) (fun _ => ?_)
      clear hK K
      refine wpAnyH_done (by kernel_rfl) ?_ _
      replace O := O.sel [false, true, true, true, true, true]
      simp only [sel] at O
      obtain ⟨l2, hl2⟩ : ∃ x, x = l ++ [⟨ai, ⟨ar, an⟩, av⟩] := ⟨_, rfl⟩
      have hk2 : l2.length = l.length + 1 := by rw [hl2]; simp
      rw [← hl2] at O HV2
      rw [← hk2, ← HKF.out] at O
      have HL3 := Lib.hid hl2
      have hl10 : l2.length ≤ 10 := by omega
      have hge : 1 ≤ l2.length := by omega
      have hle : l2.length = l.length + 1 := hk2
      have HK2 := Lib.hid hk2
      clear hl2 hk2 hle
      have w1' : IntKind.i64.wrap (2 * (l2.length : Int)) = 2 * l2.length := by simp [IntKind.wrap, IntKind.signed, IntKind.bits]; omega
      have w2' : IntKind.i64.wrap ((l2.length : Int) - 1) = l2.length - 1 := by simp [IntKind.wrap, IntKind.signed, IntKind.bits]; omega
      have w3' : IntKind.i64.wrap (2 * ((l2.length : Int) - 1)) = 2 * (l2.length - 1) := by simp [IntKind.wrap, IntKind.signed, IntKind.bits]; omega
      go_wp2_with fail
      by_cases hno : 2 * (l2.length : Int) ≤ n ∨ n < 2 * ((l2.length : Int) - 1)
      · have hv := HV2.out
        have e1 : 2 * ((l.length : Int) + 1) ≤ n ∨ n < 2 * (l.length : Int) := by have := HK2.out; omega
        rw [if_pos e1] at hv
        subst hv
        have hcs : decide (2 * (l2.length : Int) ≤ n) = true ∨ (decide (2 * (l2.length : Int) ≤ n) = false ∧ decide (n < 2 * ((l2.length : Int) - 1)) = true) := by simp; omega
        clear hno e1
        rcases hcs with d1 | ⟨d1, d2⟩
        all_goals
          apply region_quiet_mem (by kernel_rfl) (by kernel_rfl)
          case O => repeat' (first | (with_reducible exact O) | (with_reducible apply Mem.drew) | (with_reducible apply Mem.drewN) | (with_reducible apply Mem.ext) | (with_reducible apply Mem.alloc) | (with_reducible apply Mem.setCell) | (simp only [ptb, ptb_upd, foots_cons, List.mem_cons, World.size_alloc, size_ext, World.size_setCell, true_or, or_true, eq_self_iff_true]))
          case' h =>
            intro w6 O'
            (try clear O)
            have O := O'
            clear O'
            (first | simp only [sel, rst, List.cons_append, List.nil_append, World.size_alloc, size_ext, World.size_setCell, size_setMap, World.size_drew, size_drewN, upd, List.set_cons_zero, List.set_cons_succ, if_true, if_false, reduceIte, not_false_eq_true, ne_lt0, ne_lt1, ne_lt2, ne_lt3, ne_lt4, cs] at O | simp only [sel, rst, List.cons_append, List.nil_append, World.size_alloc, size_ext, World.size_setCell, size_setMap, World.size_drew, size_drewN, upd, List.set_cons_zero, List.set_cons_succ, if_true, if_false, reduceIte, not_false_eq_true, ne_lt0, ne_lt1, ne_lt2, ne_lt3, ne_lt4] at O | skip)
            (try clear cs)
            (try clear v1)
            (try clear v2)
            (try clear v3)
          have cs := O.facts
          simp only [factsP, cellsP, roomP, foots_cons, foots_nil, foots_append, foot_pt, ptb, ptb_mapA, foot_mapA, factsP_mapA, foot_bun, List.append_nil, List.nil_append, List.cons_append, List.nodup_cons, List.nodup_nil, List.mem_cons, List.not_mem_nil, List.mem_singleton, List.forall_mem_cons, not_or, not_false_eq_true, and_true, true_and, or_false, false_or, forall_eq_or_imp, forall_eq, implies_true, Nat.zero_add, Nat.reduceAdd, and_assoc, ptb_listA, factsP_listA, rpL, accCells, intCells, Nat.mul_one] at cs
          repeat (go_big_quiet_step ((fail)))
          refine wpQuiet_nil ?_
          intro w7 hq
          (try clear cs)
          (try clear v1)
          (try clear v2)
          (try clear v3)
          replace O := O.qext hq
          clear hq
          have cs := O.facts
          simp only [factsP, cellsP, roomP, foots_cons, foots_nil, foots_append, foot_pt, ptb, ptb_mapA, foot_mapA, factsP_mapA, foot_bun, List.append_nil, List.nil_append, List.cons_append, List.nodup_cons, List.nodup_nil, List.mem_cons, List.not_mem_nil, List.mem_singleton, List.forall_mem_cons, not_or, not_false_eq_true, and_true, true_and, or_false, false_or, forall_eq_or_imp, forall_eq, implies_true, Nat.zero_add, Nat.reduceAdd, and_assoc, ptb_listA, factsP_listA, rpL, accCells, intCells, Nat.mul_one] at cs
          go_wp2_with fail
          go_ret2
          exact ⟨rfl, _, _, _, _, O.sel [false, false, true, true, true]⟩
      · have hv := HV2.out
        have e1 : ¬ (2 * ((l.length : Int) + 1) ≤ n ∨ n < 2 * (l.length : Int)) := by have := HK2.out; omega
        rw [if_neg e1] at hv
        have HV3 := Lib.hid hv
        have d1 : decide (2 * (l2.length : Int) ≤ n) = false := by simp; omega
        have d2 : decide (n < 2 * ((l2.length : Int) - 1)) = false := by simp; omega
        clear hno e1 hv HV2
        apply region_quiet_mem (by kernel_rfl) (by kernel_rfl)
        case O => repeat' (first | (with_reducible exact O) | (with_reducible apply Mem.drew) | (with_reducible apply Mem.drewN) | (with_reducible apply Mem.ext) | (with_reducible apply Mem.alloc) | (with_reducible apply Mem.setCell) | (simp only [ptb, ptb_upd, foots_cons, List.mem_cons, World.size_alloc, size_ext, World.size_setCell, true_or, or_true, eq_self_iff_true]))
        case' h =>
          intro w6 O'
          (try clear O)
          have O := O'
          clear O'
          (first | simp only [sel, rst, List.cons_append, List.nil_append, World.size_alloc, size_ext, World.size_setCell, size_setMap, World.size_drew, size_drewN, upd, List.set_cons_zero, List.set_cons_succ, if_true, if_false, reduceIte, not_false_eq_true, ne_lt0, ne_lt1, ne_lt2, ne_lt3, ne_lt4, cs] at O | simp only [sel, rst, List.cons_append, List.nil_append, World.size_alloc, size_ext, World.size_setCell, size_setMap, World.size_drew, size_drewN, upd, List.set_cons_zero, List.set_cons_succ, if_true, if_false, reduceIte, not_false_eq_true, ne_lt0, ne_lt1, ne_lt2, ne_lt3, ne_lt4] at O | skip)
          (try clear cs)
          (try clear v1)
          (try clear v2)
          (try clear v3)
        have cs := O.facts
        simp only [factsP, cellsP, roomP, foots_cons, foots_nil, foots_append, foot_pt, ptb, ptb_mapA, foot_mapA, factsP_mapA, foot_bun, List.append_nil, List.nil_append, List.cons_append, List.nodup_cons, List.nodup_nil, List.mem_cons, List.not_mem_nil, List.mem_singleton, List.forall_mem_cons, not_or, not_false_eq_true, and_true, true_and, or_false, false_or, forall_eq_or_imp, forall_eq, implies_true, Nat.zero_add, Nat.reduceAdd, and_assoc, ptb_listA, factsP_listA, rpL, accCells, intCells, Nat.mul_one] at cs
        repeat (go_big_quiet_step ((fail)))
        refine wpQuiet_nil ?_
        intro w7 hq
        (try clear cs)
        (try clear v1)
        (try clear v2)
        (try clear v3)
        replace O := O.qext hq
        clear hq
        clear w1' w2' w3' d1 d2
        have hv := HV3.out
        subst hv
        have cs := O.facts
        simp only [factsP, cellsP, roomP, foots_cons, foots_nil, foots_append, foot_pt, ptb, ptb_mapA, foot_mapA, factsP_mapA, foot_bun, List.append_nil, List.nil_append, List.cons_append, List.nodup_cons, List.nodup_nil, List.mem_cons, List.not_mem_nil, List.mem_singleton, List.forall_mem_cons, not_or, not_false_eq_true, and_true, true_and, or_false, false_or, forall_eq_or_imp, forall_eq, implies_true, Nat.zero_add, Nat.reduceAdd, and_assoc, ptb_listA, factsP_listA, rpL, accCells, intCells, Nat.mul_one] at cs
        go_wp2_with fail
        have hzz : True := trivial
        go_loopw [11, 13, 14] (fun s11 s13 s14 wr => ∃ (k : Nat) (s : ByteArray × Ballot × Bool), k ≤ l2.length ∧ s14 = .int .i64 k ∧ s11 = .string s.1 ∧ s13 = .bool s.2.2 ∧ Mem w fp wr [.pt w7.heap.size [.int .u32 s.2.1.r, .int .u8 s.2.1.n] 31, .pt (w.heap.size + 1) [.bool ai, .int .u32 ar, .int .u8 an, .string av] 36, .pt w.heap.size [.int .u32 pr, .int .u8 pn] 31, .pt pb [.int .i64 node, .int .i64 n, .int .u32 pr, .int .u8 pn, .string own, .slice A1 fr2.length c1, .slice A2' l2.length c2'] 56, listA 3 1 intCells A1 c1 fr2, listA 36 4 accCells A2' c2' l2] ∧ Hid ((l2.take k).foldl foldStep (own, noB, false) = s)) (fun _ _ s14 _ => l2.length - (intOf s14).toNat)
        case atStart => exact ⟨0, (own, noB, false), by omega, rfl, rfl, rfl, O.alloc [.int .u32 0, .int .u8 0] 31, Lib.hid rfl⟩
        case round =>
          clear O
          obtain ⟨k, ⟨sv, ⟨sr, sn⟩, si⟩, hk, rfl, rfl, rfl, O, HF⟩ := hrel
          by_cases hlt : k < l2.length
          · obtain ⟨x, hx⟩ : ∃ x, l2[k]? = some x := ⟨_, List.getElem?_eq_getElem hlt⟩
            obtain ⟨g, rfl, _⟩ := listA_get (cs := accCells) (fun _ => rfl) (O.hold (listA 36 4 accCells A2' c2' l2) (by simp)) hx
            have htk : (l2.take (k + 1)).foldl foldStep (own, noB, false) = foldStep (sv, ⟨sr, sn⟩, si) x := by
              rw [List.take_succ_eq_append_getElem hlt, (List.getElem?_eq_some_iff.1 hx).2, List.foldl_append, HF.out]
              rfl
            have HTK := Lib.hid htk
            have HX := Lib.hid hx
            clear htk hx HF
            obtain ⟨xi, ⟨xr, xn⟩, xv⟩ := x
            skip
            have LS := Lib.hid (fun W => ref_Less11 ⟨sr, sn⟩ ⟨xr, xn⟩ W)
            generalize hls : less ⟨sr, sn⟩ ⟨xr, xn⟩ = ls at LS
            have HLS := Lib.hid hls
            clear hls
            simp only [Ballot.val] at LS
            have cs := O.facts
            simp only [factsP, cellsP, roomP, foots_cons, foots_nil, foots_append, foot_pt, ptb, ptb_mapA, foot_mapA, factsP_mapA, foot_bun, List.append_nil, List.nil_append, List.cons_append, List.nodup_cons, List.nodup_nil, List.mem_cons, List.not_mem_nil, List.mem_singleton, List.forall_mem_cons, not_or, not_false_eq_true, and_true, true_and, or_false, false_or, forall_eq_or_imp, forall_eq, implies_true, Nat.zero_add, Nat.reduceAdd, and_assoc, ptb_listA, factsP_listA, rpL, accCells, intCells, Nat.mul_one] at cs
            have v1 := (listA_at (cs := accCells) (fun _ => rfl) (O.hold (listA 36 4 accCells (some ⟨g, 0, none⟩) c2' l2) (by simp)) HX.out)
            try simp only [cellsQ, roomP, and_assoc, and_true, true_and, Nat.add_zero, Nat.zero_add, Nat.reduceAdd, factsP, cellsP, roomP, foots_cons, foots_nil, foots_append, foot_pt, ptb, ptb_mapA, foot_mapA, factsP_mapA, foot_bun, List.append_nil, List.nil_append, List.cons_append, List.nodup_cons, List.nodup_nil, List.mem_cons, List.not_mem_nil, List.mem_singleton, List.forall_mem_cons, not_or, not_false_eq_true, and_true, true_and, or_false, false_or, forall_eq_or_imp, forall_eq, implies_true, Nat.zero_add, Nat.reduceAdd, and_assoc, ptb_listA, factsP_listA, rpL, accCells, intCells, Nat.mul_one] at v1
            go_wp2_with fail
            apply region_quiet_mem (by kernel_rfl) (by kernel_rfl)
            case O => repeat' (first | (with_reducible exact O) | (with_reducible apply Mem.drew) | (with_reducible apply Mem.drewN) | (with_reducible apply Mem.ext) | (with_reducible apply Mem.alloc) | (with_reducible apply Mem.setCell) | (simp only [ptb, ptb_upd, foots_cons, List.mem_cons, World.size_alloc, size_ext, World.size_setCell, true_or, or_true, eq_self_iff_true]))
            case' h =>
              intro y1 O'
              (try clear O)
              have O := O'
              clear O'
              (first | simp only [sel, rst, List.cons_append, List.nil_append, World.size_alloc, size_ext, World.size_setCell, size_setMap, World.size_drew, size_drewN, upd, List.set_cons_zero, List.set_cons_succ, if_true, if_false, reduceIte, not_false_eq_true, ne_lt0, ne_lt1, ne_lt2, ne_lt3, ne_lt4, cs] at O | simp only [sel, rst, List.cons_append, List.nil_append, World.size_alloc, size_ext, World.size_setCell, size_setMap, World.size_drew, size_drewN, upd, List.set_cons_zero, List.set_cons_succ, if_true, if_false, reduceIte, not_false_eq_true, ne_lt0, ne_lt1, ne_lt2, ne_lt3, ne_lt4] at O | skip)
              (try clear cs)
              (try clear v1)
              (try clear v2)
              (try clear v3)
            have cs := O.facts
            simp only [factsP, cellsP, roomP, foots_cons, foots_nil, foots_append, foot_pt, ptb, ptb_mapA, foot_mapA, factsP_mapA, foot_bun, List.append_nil, List.nil_append, List.cons_append, List.nodup_cons, List.nodup_nil, List.mem_cons, List.not_mem_nil, List.mem_singleton, List.forall_mem_cons, not_or, not_false_eq_true, and_true, true_and, or_false, false_or, forall_eq_or_imp, forall_eq, implies_true, Nat.zero_add, Nat.reduceAdd, and_assoc, ptb_listA, factsP_listA, rpL, accCells, intCells, Nat.mul_one] at cs
            have v1 := (listA_at (cs := accCells) (fun _ => rfl) (O.hold (listA 36 4 accCells (some ⟨g, 0, none⟩) c2' l2) (by simp)) HX.out)
            try simp only [cellsQ, roomP, and_assoc, and_true, true_and, Nat.add_zero, Nat.zero_add, Nat.reduceAdd, factsP, cellsP, roomP, foots_cons, foots_nil, foots_append, foot_pt, ptb, ptb_mapA, foot_mapA, factsP_mapA, foot_bun, List.append_nil, List.nil_append, List.cons_append, List.nodup_cons, List.nodup_nil, List.mem_cons, List.not_mem_nil, List.mem_singleton, List.forall_mem_cons, not_or, not_false_eq_true, and_true, true_and, or_false, false_or, forall_eq_or_imp, forall_eq, implies_true, Nat.zero_add, Nat.reduceAdd, and_assoc, ptb_listA, factsP_listA, rpL, accCells, intCells, Nat.mul_one] at v1
            repeat (go_big_quiet_step ((first | (go_at_call 27; exact quietMem (LS.out _)))))
            refine wpQuiet_nil ?_
            intro y2 hq
            (try clear cs)
            (try clear v1)
            (try clear v2)
            (try clear v3)
            replace O := O.qext hq
            clear hq
            have e2 := HTK.out
            simp only [foldStep, HLS.out] at e2
            cases xi <;> cases si <;> cases ls <;> simp only [Bool.false_eq_true, Bool.true_eq_false, or_true, or_false, true_or, false_or, if_true, if_false, and_true, and_false, true_and, false_and] at e2
            all_goals
              have cs := O.facts
              simp only [factsP, cellsP, roomP, foots_cons, foots_nil, foots_append, foot_pt, ptb, ptb_mapA, foot_mapA, factsP_mapA, foot_bun, List.append_nil, List.nil_append, List.cons_append, List.nodup_cons, List.nodup_nil, List.mem_cons, List.not_mem_nil, List.mem_singleton, List.forall_mem_cons, not_or, not_false_eq_true, and_true, true_and, or_false, false_or, forall_eq_or_imp, forall_eq, implies_true, Nat.zero_add, Nat.reduceAdd, and_assoc, ptb_listA, factsP_listA, rpL, accCells, intCells, Nat.mul_one] at cs
              have v1 := (listA_at (cs := accCells) (fun _ => rfl) (O.hold (listA 36 4 accCells (some ⟨g, 0, none⟩) c2' l2) (by simp)) HX.out)
              try simp only [cellsQ, roomP, and_assoc, and_true, true_and, Nat.add_zero, Nat.zero_add, Nat.reduceAdd, factsP, cellsP, roomP, foots_cons, foots_nil, foots_append, foot_pt, ptb, ptb_mapA, foot_mapA, factsP_mapA, foot_bun, List.append_nil, List.nil_append, List.cons_append, List.nodup_cons, List.nodup_nil, List.mem_cons, List.not_mem_nil, List.mem_singleton, List.forall_mem_cons, not_or, not_false_eq_true, and_true, true_and, or_false, false_or, forall_eq_or_imp, forall_eq, implies_true, Nat.zero_add, Nat.reduceAdd, and_assoc, ptb_listA, factsP_listA, rpL, accCells, intCells, Nat.mul_one] at v1
              go_wp2_with fail
              go_roundw
              case rel =>
                refine ⟨k + 1, _, by omega, by go_num, rfl, rfl, ?_, Lib.hid e2⟩
                apply Mem.to [true, true, true, true, true, true]
                · repeat' (first | (with_reducible exact O) | (with_reducible apply Mem.drew) | (with_reducible apply Mem.drewN) | (with_reducible apply Mem.ext) | (with_reducible apply Mem.alloc) | (with_reducible apply Mem.setCell) | (simp only [ptb, ptb_upd, foots_cons, List.mem_cons, World.size_alloc, size_ext, World.size_setCell, true_or, or_true, eq_self_iff_true]))
                · first | with_reducible rfl | (simp only [sel, rst, List.cons_append, List.nil_append, World.size_alloc, size_ext, World.size_setCell, size_setMap, World.size_drew, size_drewN, upd, List.set_cons_zero, List.set_cons_succ, if_true, if_false, reduceIte, not_false_eq_true, ne_lt0, ne_lt1, ne_lt2, ne_lt3, ne_lt4, cs]; done) | (simp only [sel, rst, List.cons_append, List.nil_append, World.size_alloc, size_ext, World.size_setCell, size_setMap, World.size_drew, size_drewN, upd, List.set_cons_zero, List.set_cons_succ, if_true, if_false, reduceIte, not_false_eq_true, ne_lt0, ne_lt1, ne_lt2, ne_lt3, ne_lt4]; done) | (simp only [sel, rst, List.cons_append, List.nil_append, World.size_alloc, size_ext, World.size_setCell, size_setMap, World.size_drew, size_drewN, upd, List.set_cons_zero, List.set_cons_succ, if_true, if_false, reduceIte, not_false_eq_true, ne_lt0, ne_lt1, ne_lt2, ne_lt3, ne_lt4, cs]; rfl) | (simp only [sel, rst, List.cons_append, List.nil_append, World.size_alloc, size_ext, World.size_setCell, size_setMap, World.size_drew, size_drewN, upd, List.set_cons_zero, List.set_cons_succ, if_true, if_false, reduceIte, not_false_eq_true, ne_lt0, ne_lt1, ne_lt2, ne_lt3, ne_lt4]; rfl)
              case measure => simp [intOf]; omega
          · obtain rfl : k = l2.length := by omega
            have hf := HF.out
            rw [List.take_length] at hf
            have e2 : (foldBest own l2).1 = sv := by unfold foldBest; rw [hf]
            clear hf HF
            have E2 := Lib.hid e2
            clear e2
            skip
            have cs := O.facts
            simp only [factsP, cellsP, roomP, foots_cons, foots_nil, foots_append, foot_pt, ptb, ptb_mapA, foot_mapA, factsP_mapA, foot_bun, List.append_nil, List.nil_append, List.cons_append, List.nodup_cons, List.nodup_nil, List.mem_cons, List.not_mem_nil, List.mem_singleton, List.forall_mem_cons, not_or, not_false_eq_true, and_true, true_and, or_false, false_or, forall_eq_or_imp, forall_eq, implies_true, Nat.zero_add, Nat.reduceAdd, and_assoc, ptb_listA, factsP_listA, rpL, accCells, intCells, Nat.mul_one] at cs
            go_wp2_with fail
            go_ret2
            refine ⟨by rw [E2.out]; rfl, _, _, _, _, O.sel [false, false, false, true, true, true]⟩
end Go.Proofs.Ytkhpikjmhamppaa
