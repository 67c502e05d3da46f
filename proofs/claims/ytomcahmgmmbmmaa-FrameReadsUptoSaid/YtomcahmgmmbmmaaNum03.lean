/- WALKS: a number of four bytes, and back. -/
import Derived.Test.YtomcahmgmmbmmaaSum03
import Derived.Laws.BitsLemmas
set_option linter.unusedVariables false
set_option linter.unusedSimpArgs false
namespace Go.Proofs.Ytomcahmgmmbmmaa
open Go.RowKit Go.Tk
def num4 (l : List UInt8) : Nat := (l.getD 0 0).toNat + 256 * (l.getD 1 0).toNat + 65536 * (l.getD 2 0).toNat + 16777216 * (l.getD 3 0).toNat
theorem num4_lt (l : List UInt8) : num4 l < 4294967296 := by
  have h0 := (l.getD 0 0).toNat_lt
  have h1 := (l.getD 1 0).toNat_lt
  have h2 := (l.getD 2 0).toNat_lt
  have h3 := (l.getD 3 0).toNat_lt
  unfold num4
  omega
def four4 (n : Nat) : List UInt8 := [UInt8.ofNat n, UInt8.ofNat (n / 256), UInt8.ofNat (n / 65536), UInt8.ofNat (n / 16777216)]
theorem num4_four4 (n : Nat) (h : n < 4294967296) : num4 (four4 n) = n := by
  simp [num4, four4, UInt8.toNat_ofNat']
  omega
theorem wraps_u32 (n : Int) (h0 : 0 ≤ n) (h1 : n < 2 ^ 32) : IntKind.u32.wrap n = n := by
  simp [IntKind.wrap, IntKind.bits, IntKind.signed]
  omega
theorem or_low (i : Nat) (lo hi : Int) (h0 : 0 ≤ hi) (h1 : hi % 2 ^ i = 0) (h2 : hi < 2 ^ 32) (h3 : 0 ≤ lo) (h4 : lo < 2 ^ i) (h5 : lo < 2 ^ 32) : bits .or .u32 lo hi = lo + hi := by
  have hc : bits .or .u32 lo hi = bits .or .u32 hi lo := by
    simp only [bits]
    show IntKind.u32.wrap ((BitVec.ofInt 32 lo ||| BitVec.ofInt 32 hi).toNat : Int) = IntKind.u32.wrap ((BitVec.ofInt 32 hi ||| BitVec.ofInt 32 lo).toNat : Int)
    rw [BitVec.or_comm]
  rw [hc, bits_join .u32 32 (by decide) wraps_u32 i hi lo h0 h1 h2 h3 h4 h5]
  omega
theorem num_int (x0 x1 x2 x3 : UInt8) : bits .or .u32 (bits .or .u32 (bits .or .u32 ((x0.toNat : Int) % 4294967296) ((x1.toNat : Int) % 4294967296 * 256 % 4294967296)) ((x2.toNat : Int) % 4294967296 * 65536 % 4294967296)) ((x3.toNat : Int) % 4294967296 * 16777216 % 4294967296) = (x0.toNat : Int) + 256 * (x1.toNat : Int) + 65536 * (x2.toNat : Int) + 16777216 * (x3.toNat : Int) := by
  have h0 := x0.toNat_lt
  have h1 := x1.toNat_lt
  have h2 := x2.toNat_lt
  have h3 := x3.toNat_lt
  have e1 := or_low 8 ((x0.toNat : Int) % 4294967296) ((x1.toNat : Int) % 4294967296 * 256 % 4294967296) (by omega) (by omega) (by omega) (by omega) (by omega) (by omega)
  rw [e1]
  have e2 := or_low 16 ((x0.toNat : Int) % 4294967296 + (x1.toNat : Int) % 4294967296 * 256 % 4294967296) ((x2.toNat : Int) % 4294967296 * 65536 % 4294967296) (by omega) (by omega) (by omega) (by omega) (by omega) (by omega)
  rw [e2]
  have e3 := or_low 24 ((x0.toNat : Int) % 4294967296 + (x1.toNat : Int) % 4294967296 * 256 % 4294967296 + (x2.toNat : Int) % 4294967296 * 65536 % 4294967296) ((x3.toNat : Int) % 4294967296 * 16777216 % 4294967296) (by omega) (by omega) (by omega) (by omega) (by omega) (by omega)
  rw [e3]
  omega
theorem ptList {α : Type} {e : TypeId} {size : Nat} {cs : α → List Value} {w0 w : World} {F : List Nat} {L : List Asn} {g : Nat} {l : List α} (hcs : ∀ a, (cs a).length = size) (h : Mem w0 F w (.pt g (l.flatMap cs) e :: L)) (hl : l.length ≤ maxLen) : Mem w0 F w (listA e size cs (some ⟨g, 0, none⟩) l.length l :: L) :=
  Mem.listShut (tail := []) hcs (by simpa using h) (by simp) (Nat.le_refl _) hl
set_option maxRecDepth 100000 in
set_option maxHeartbeats 4000000 in
theorem fr_number (w : World) (A : Option Addr) (c : Nat) (l : List UInt8) (h : Rd w A l) (hl : 4 ≤ l.length) :
    Calls Try.prog 32 #[.slice A l.length c] w (fun e w' => e = .returned (.int .u32 (num4 l : Int)) ∧ Mem w [] w' []) := by
  have O : Mem w [] w [] := Mem.begin
  obtain ⟨v, hv⟩ : ∃ v, v = num4 l := ⟨_, rfl⟩
  rw [← hv]
  have HV := Lib.hid hv
  clear hv
  obtain ⟨b, off, rfl, hb⟩ := h.addr (by omega)
  obtain ⟨x0, h0⟩ : ∃ x, l[0]? = some x := ⟨_, List.getElem?_eq_getElem (by omega)⟩
  obtain ⟨x1, h1⟩ : ∃ x, l[1]? = some x := ⟨_, List.getElem?_eq_getElem (by omega)⟩
  obtain ⟨x2, h2⟩ : ∃ x, l[2]? = some x := ⟨_, List.getElem?_eq_getElem (by omega)⟩
  obtain ⟨x3, h3⟩ : ∃ x, l[3]? = some x := ⟨_, List.getElem?_eq_getElem (by omega)⟩
  have V := Lib.hid (fun W (hW : Fr [] w W) => And.intro (roomP_of (Nat.lt_of_lt_of_le hb hW.size)) <| And.intro ((h.fr hW).at_ h0) (And.intro ((h.fr hW).at_ h1) (And.intro ((h.fr hW).at_ h2) ((h.fr hW).at_ h3))))
  have HX := Lib.hid (And.intro h0 (And.intro h1 (And.intro h2 h3)))
  have l0 : 0 < l.length := by omega
  have l1 : 1 < l.length := by omega
  have l2 : 2 < l.length := by omega
  have l3 : 3 < l.length := by omega
  clear h0 h1 h2 h3 h hl
  simp only [Nat.add_zero] at V
  skip
  go_enter Try.func32, Try.ntmps32
  have cs := O.facts
  simp only [factsP, cellsP, roomP, foots_cons, foots_nil, foots_append, foot_pt, ptb, ptb_mapA, foot_mapA, factsP_mapA, foot_bun, List.append_nil, List.nil_append, List.cons_append, List.nodup_cons, List.nodup_nil, List.mem_cons, List.not_mem_nil, List.mem_singleton, List.forall_mem_cons, not_or, not_false_eq_true, and_true, true_and, or_false, false_or, forall_eq_or_imp, forall_eq, implies_true, Nat.zero_add, Nat.reduceAdd, and_assoc] at cs
  have v1 := V.out _ O.fr
  simp only [roomP, and_assoc] at v1
  go_wp2_with fail
  apply region_quiet_mem (by kernel_rfl) (by kernel_rfl)
  case O => repeat' (first | (with_reducible exact O) | (with_reducible apply Mem.drew) | (with_reducible apply Mem.drewN) | (with_reducible apply Mem.ext) | (with_reducible apply Mem.alloc) | (with_reducible apply Mem.setCell) | (simp only [ptb, ptb_upd, foots_cons, List.mem_cons, World.size_alloc, size_ext, World.size_setCell, true_or, or_true, eq_self_iff_true]))
  case' h =>
    intro w1 O'
    (try clear O)
    have O := O'
    clear O'
    (first | simp only [sel, rst, List.cons_append, List.nil_append, World.size_alloc, size_ext, World.size_setCell, size_setMap, World.size_drew, size_drewN, upd, List.set_cons_zero, List.set_cons_succ, if_true, if_false, reduceIte, not_false_eq_true, ne_lt0, ne_lt1, ne_lt2, ne_lt3, ne_lt4, cs] at O | simp only [sel, rst, List.cons_append, List.nil_append, World.size_alloc, size_ext, World.size_setCell, size_setMap, World.size_drew, size_drewN, upd, List.set_cons_zero, List.set_cons_succ, if_true, if_false, reduceIte, not_false_eq_true, ne_lt0, ne_lt1, ne_lt2, ne_lt3, ne_lt4] at O | skip)
    (try clear cs)
    (try clear v1)
    (try clear v2)
    (try clear v3)
  have cs := O.facts
  simp only [factsP, cellsP, roomP, foots_cons, foots_nil, foots_append, foot_pt, ptb, ptb_mapA, foot_mapA, factsP_mapA, foot_bun, List.append_nil, List.nil_append, List.cons_append, List.nodup_cons, List.nodup_nil, List.mem_cons, List.not_mem_nil, List.mem_singleton, List.forall_mem_cons, not_or, not_false_eq_true, and_true, true_and, or_false, false_or, forall_eq_or_imp, forall_eq, implies_true, Nat.zero_add, Nat.reduceAdd, and_assoc] at cs
  have v1 := V.out _ O.fr
  simp only [roomP, and_assoc] at v1
  repeat (go_big_quiet_step ((fail)))
  refine wpQuiet_nil ?_
  intro w2 hq
  (try clear cs)
  (try clear v1)
  (try clear v2)
  (try clear v3)
  replace O := O.qext hq
  clear hq
  have cs := O.facts
  simp only [factsP, cellsP, roomP, foots_cons, foots_nil, foots_append, foot_pt, ptb, ptb_mapA, foot_mapA, factsP_mapA, foot_bun, List.append_nil, List.nil_append, List.cons_append, List.nodup_cons, List.nodup_nil, List.mem_cons, List.not_mem_nil, List.mem_singleton, List.forall_mem_cons, not_or, not_false_eq_true, and_true, true_and, or_false, false_or, forall_eq_or_imp, forall_eq, implies_true, Nat.zero_add, Nat.reduceAdd, and_assoc] at cs
  have v1 := V.out _ O.fr
  simp only [roomP, and_assoc] at v1
  go_wp2_with fail
  go_ret
  refine ⟨?_, O⟩
  obtain ⟨h0, h1, h2, h3⟩ := HX.out
  show Ending.returned (.int .u32 _) = _
  rw [num_int, HV.out]
  simp only [num4, List.getD_eq_getElem?_getD, h0, h1, h2, h3, Option.getD_some]
  rfl
set_option maxRecDepth 100000 in
set_option maxHeartbeats 4000000 in
theorem fr_four (w : World) (n : Nat) (hn : n < 4294967296) :
    Calls Try.prog 24 #[.int .u32 (n : Int)] w (fun e w' => e = .returned (.slice (some ⟨w.heap.size, 0, none⟩) 4 4) ∧ Mem w [] w' [listA 5 1 byteCells (some ⟨w.heap.size, 0, none⟩) 4 (four4 n)]) := by
  have O : Mem w [] w [] := Mem.begin
  have hn2 : (n : Int) < 4294967296 := by omega
  go_enter Try.func24, Try.ntmps24
  skip
  have cs := O.facts
  simp only [factsP, cellsP, roomP, foots_cons, foots_nil, foots_append, foot_pt, ptb, ptb_mapA, foot_mapA, factsP_mapA, foot_bun, List.append_nil, List.nil_append, List.cons_append, List.nodup_cons, List.nodup_nil, List.mem_cons, List.not_mem_nil, List.mem_singleton, List.forall_mem_cons, not_or, not_false_eq_true, and_true, true_and, or_false, false_or, forall_eq_or_imp, forall_eq, implies_true, Nat.zero_add, Nat.reduceAdd, and_assoc] at cs
  go_wp2_with fail
  go_ret
  refine ⟨rfl, ptList (l := four4 n) (fun _ => rfl) ?_ (by simp [four4, maxLen])⟩
  have e : (four4 n).flatMap byteCells = [.int .u8 ((n : Int) % 256), .int .u8 ((n : Int) / 256 % 256), .int .u8 ((n : Int) / 65536 % 256), .int .u8 ((n : Int) / 16777216)] := by
    simp [four4, byteCells, UInt8.toNat_ofNat']
    omega
  rw [e]
  exact O.alloc [_, _, _, _] _
end Go.Proofs.Ytomcahmgmmbmmaa
