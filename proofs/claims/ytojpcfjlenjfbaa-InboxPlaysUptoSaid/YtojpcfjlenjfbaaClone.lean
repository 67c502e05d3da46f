/- WALKS: slices.Clone of bytes (the general part of XLib03, for chapters without frames). -/
import Derived.Test.YtojpcfjlenjfbaaBytes
set_option linter.unusedVariables false
set_option linter.unusedSimpArgs false
namespace Go.Proofs.Ytojpcfjlenjfbaa
open Go.RowKit Go.Tk
theorem ptList {α : Type} {e : TypeId} {size : Nat} {cs : α → List Value} {w0 w : World} {F : List Nat} {L : List Asn} {g : Nat} {l : List α} (hcs : ∀ a, (cs a).length = size) (h : Mem w0 F w (.pt g (l.flatMap cs) e :: L)) (hl : l.length ≤ maxLen) : Mem w0 F w (listA e size cs (some ⟨g, 0, none⟩) l.length l :: L) :=
  Mem.listShut (tail := []) hcs (by simpa using h) (by simp) (Nat.le_refl _) hl
abbrev bytesA (A : Option Addr) (c : Nat) (l : List UInt8) : Asn := listA 5 1 byteCells A c l
theorem Mem.rd {w0 w : World} {F : List Nat} {L : List Asn} (h : Mem w0 F w L) {A : Option Addr} {c : Nat} {l : List UInt8} (hm : bytesA A c l ∈ L) : Rd w A l := listA_rd (h.hold _ hm)
theorem eqNil_none (w : World) : (binOp .eql 32 (.slice none 0 0) (.slice none 0 0)).run Try.prog w = .ok (.bool true) w := by kernel_rfl
theorem eqNil_some (a : Addr) (n c : Nat) (w : World) : (binOp .eql 32 (.slice (some a) n c) (.slice none 0 0)).run Try.prog w = .ok (.bool false) w := by kernel_rfl
set_option maxRecDepth 100000 in
set_option maxHeartbeats 4000000 in
theorem fr_Clone (w : World) (A : Option Addr) (c : Nat) (l : List UInt8) (h : Rd w A l) (hl : l.length ≤ 2000000) (hA : A = none → c = 0) :
    Calls Try.prog 29 #[.slice A l.length c] w (fun e w' => ∃ A' c', e = .returned (.slice A' l.length c') ∧ Mem w [] w' [bytesA A' c' l]) := by
  have O : Mem w [] w [] := Mem.begin
  cases A with
  | none =>
    have hc := hA rfl
    subst hc
    have hnil : l = [] := by
      cases l with
      | nil => rfl
      | cons x l => obtain ⟨b, off, h1, _⟩ := h.ats 0 x rfl; simp at h1
    subst hnil
    simp only [List.length_nil]
    have hen := eqNil_none
    go_enter Try.func29, Try.ntmps29
    have cs := O.facts
    try simp only [factsP, cellsP, roomP, foots_cons, foots_nil, foots_append, foot_pt, ptb, ptb_mapA, foot_mapA, factsP_mapA, foot_bun, List.append_nil, List.nil_append, List.cons_append, List.nodup_cons, List.nodup_nil, List.mem_cons, List.not_mem_nil, List.mem_singleton, List.forall_mem_cons, not_or, not_false_eq_true, and_true, true_and, or_false, false_or, forall_eq_or_imp, forall_eq, implies_true, Nat.zero_add, Nat.reduceAdd, and_assoc, ptb_listA, factsP_listA, Nat.mul_one] at cs
    go_wp2_with fail
    go_ret
    exact ⟨none, 0, rfl, O.listNil⟩
  | some a =>
    have H := Lib.hid h
    clear h hA
    have hen := eqNil_some a l.length c
    go_enter Try.func29, Try.ntmps29
    have cs := O.facts
    try simp only [factsP, cellsP, roomP, foots_cons, foots_nil, foots_append, foot_pt, ptb, ptb_mapA, foot_mapA, factsP_mapA, foot_bun, List.append_nil, List.nil_append, List.cons_append, List.nodup_cons, List.nodup_nil, List.mem_cons, List.not_mem_nil, List.mem_singleton, List.forall_mem_cons, not_or, not_false_eq_true, and_true, true_and, or_false, false_or, forall_eq_or_imp, forall_eq, implies_true, Nat.zero_add, Nat.reduceAdd, and_assoc, ptb_listA, factsP_listA, Nat.mul_one] at cs
    go_wp2_with ((at_builtin; refine byteTy.wl_app (ptList (l := []) (fun _ => rfl) (O.alloc [] 5) (by simp)) rfl rfl rfl rfl l rfl rfl ((H.out.fr (O.alloc [] 5).fr).src) (by simp; omega) ?_; intro A1 c1 w4 O4))
    go_ret
    exact ⟨A1, c1, by simp, by simpa using O4.sub (List.Sublist.refl _)⟩
end Go.Proofs.Ytojpcfjlenjfbaa
