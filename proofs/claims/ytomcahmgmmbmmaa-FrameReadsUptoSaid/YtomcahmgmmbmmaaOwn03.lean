/- WALKS: bytes of the caller's with a mark behind them (own, still); frames, long or not. -/
import Derived.Test.YtomcahmgmmbmmaaRef03
set_option linter.unusedVariables false
set_option linter.unusedSimpArgs false
namespace Go.Proofs.Ytomcahmgmmbmmaa
open Go.RowKit Go.Tk
def wrL (l : List UInt8) : List UInt8 := if 65536 < l.length then [] else wrapP l
def wrE (l : List UInt8) : Int := if 65536 < l.length then 31 else 0
theorem fr_Wrap_any (w : World) (A : Option Addr) (c : Nat) (l : List UInt8) (h : Rd w A l) :
    Calls Try.prog 10 #[.slice A l.length c] w (fun e w' => ∃ A' c', e = .returned (.tuple #[.slice A' (wrL l).length c', .int .i64 (wrE l)]) ∧ Mem w [] w' [bytesA A' c' (wrL l)]) := by
  unfold wrL wrE
  by_cases hb : 65536 < l.length
  · rw [if_pos hb, if_pos hb]
    exact (fr_Wrap_long w A c l hb).mono fun _ _ ⟨he, hm⟩ => ⟨none, 0, he, hm.listNil⟩
  · rw [if_neg hb, if_neg hb]
    exact fr_Wrap w A c l h (by omega)
theorem r_Wrap_any (w : World) (A : Option Addr) (c : Nat) (l : List UInt8) (h : Rd w A l) :
    Calls Try.prog 12 #[.slice A l.length c] w (fun e w' => ∃ A' c', e = .returned (.tuple #[.slice A' (wrL l).length c', .bool (decide (wrE l = 0))]) ∧ Mem w [] w' [bytesA A' c' (wrL l)]) := by
  unfold wrL wrE
  by_cases hb : 65536 < l.length
  · rw [if_pos hb, if_pos hb]
    exact (r_Wrap_long w A c l hb).mono fun _ _ ⟨he, hm⟩ => ⟨none, 0, he, hm.listNil⟩
  · rw [if_neg hb, if_neg hb]
    exact r_Wrap w A c l h (by omega)
set_option maxRecDepth 100000 in
set_option maxHeartbeats 8000000 in
theorem law_own (w : World) (A : Option Addr) (c : Nat) (l : List UInt8) (h : Rd w A l) (hl : l.length ≤ 2000000) :
    Calls Try.prog 9 #[.slice A l.length c] w (fun e w' => ∃ A' c', e = .returned (.slice A' l.length c') ∧ l.length + 1 ≤ c' ∧ Mem w [] w' [bytesA A' c' (l ++ [77])]) := by
  have O : Mem w [] w [] := Mem.begin
  have H := Lib.hid h
  clear h
  go_enter Try.func9, Try.ntmps9
  have hbl : byteCells 77 = [.int .u8 77] := rfl
  have cs := O.facts
  simp only [factsP, cellsP, roomP, foots_cons, foots_nil, foots_append, foot_pt, ptb, ptb_mapA, foot_mapA, factsP_mapA, foot_bun, List.append_nil, List.nil_append, List.cons_append, List.nodup_cons, List.nodup_nil, List.mem_cons, List.not_mem_nil, List.mem_singleton, List.forall_mem_cons, not_or, not_false_eq_true, and_true, true_and, or_false, false_or, forall_eq_or_imp, forall_eq, implies_true, Nat.zero_add, Nat.reduceAdd, and_assoc, ptb_listA, factsP_listA, Nat.mul_one, rdL, byteCells] at cs
  go_wp2_with ((first | (at_builtin; refine byteTy.wl_app ((O4.alloc (byteCells 77) 5).front1 [false, true] rfl) rfl rfl (by simp) rfl [77] rfl rfl (src_one (cs := byteCells) (fun _ => rfl) (O4.alloc (byteCells 77) 5) (List.mem_cons_self ..)) (by simp; omega) ?_; intro A2 c2 w5 O5; have hcap := (listA_cap (O5.hold _ (List.mem_cons_self ..))).1; simp only [List.length_append, List.nil_append, List.length_cons, List.length_nil, Nat.zero_add] at hcap; obtain ⟨g, hA2, _⟩ := listA_get (cs := byteCells) (k := l.length) (a := 77) (fun _ => rfl) (O5.hold _ (List.mem_cons_self ..)) (by simp); subst hA2; have hci : (l.length : Int) ≤ c2 := by omega) | (at_builtin; refine byteTy.wl_app (ptList (cs := byteCells) (l := []) (fun _ => rfl) (O.alloc [] 5) (by simp)) rfl rfl rfl rfl l rfl rfl ((H.out.fr (O.alloc [] 5).fr).src) (by simp; omega) ?_; intro A1 c1 w4 O4)))
  go_ret
  refine ⟨_, _, rfl, hcap, ?_⟩
  exact O5.sel [true]
set_option maxRecDepth 100000 in
set_option maxHeartbeats 8000000 in
theorem law_still (w : World) (A : Option Addr) (c : Nat) (l : List UInt8) (B : Option Addr) (d : Nat) (h : Rd w A (l ++ [77])) (hc : l.length + 1 ≤ c) (h2 : Rd w B l) (hl : l.length ≤ 2000000) :
    Calls Try.prog 15 #[.slice A l.length c, .slice B l.length d] w (fun e w' => e = .returned (.bool true) ∧ Mem w [] w' []) := by
  have O : Mem w [] w [] := Mem.begin
  obtain ⟨b, off, rfl, hb⟩ := h.addr (by simp)
  have ht : (l ++ [77]).take l.length = l := by simp
  have h1 : Rd w (some ⟨b, off, none⟩) l := by have := h.take l.length; rwa [ht] at this
  have V := Lib.hid (fun W (hW : Fr [] w W) => And.intro (roomP_of (Nat.lt_of_lt_of_le hb hW.size)) ((h.fr hW).at_ (i := l.length) (x := 77) (by simp)))
  have S := Lib.hid (fun W (hW : Fr [] w W) => r_Same W (some ⟨b, off, none⟩) c l B d l (h1.fr hW) (h2.fr hW) hl)
  clear h h1 h2 ht
  have hd : decide (l = l) = true := by simp
  rw [hd] at S
  clear hd
  have hci : (l.length : Int) + 1 ≤ c := by omega
  have nc0 : ¬ (c = 0) := by omega
  skip
  go_enter Try.func15, Try.ntmps15
  have cs := O.facts
  simp only [factsP, cellsP, roomP, foots_cons, foots_nil, foots_append, foot_pt, ptb, ptb_mapA, foot_mapA, factsP_mapA, foot_bun, List.append_nil, List.nil_append, List.cons_append, List.nodup_cons, List.nodup_nil, List.mem_cons, List.not_mem_nil, List.mem_singleton, List.forall_mem_cons, not_or, not_false_eq_true, and_true, true_and, or_false, false_or, forall_eq_or_imp, forall_eq, implies_true, Nat.zero_add, Nat.reduceAdd, and_assoc, ptb_listA, factsP_listA, Nat.mul_one, rdL, byteCells] at cs
  have v1 := V.out _ O.fr
  simp only [roomP, and_assoc] at v1
  go_wp2_with fail
  first | apply Mem.atCall | apply Mem.atCode | apply Mem.atList
  case h => repeat' (first | (with_reducible exact O) | (with_reducible apply Mem.drew) | (with_reducible apply Mem.drewN) | (with_reducible apply Mem.ext) | (with_reducible apply Mem.alloc) | (with_reducible apply Mem.setCell) | (simp only [ptb, ptb_upd, foots_cons, List.mem_cons, World.size_alloc, size_ext, World.size_setCell, true_or, or_true, eq_self_iff_true]))
  case' k =>
    intro w1 O'
    (try clear O)
    have O := O'
    clear O'
    (first | simp only [sel, rst, List.cons_append, List.nil_append, World.size_alloc, size_ext, World.size_setCell, size_setMap, World.size_drew, size_drewN, upd, List.set_cons_zero, List.set_cons_succ, if_true, if_false, reduceIte, not_false_eq_true, ne_lt0, ne_lt1, ne_lt2, ne_lt3, ne_lt4, cs] at O | simp only [sel, rst, List.cons_append, List.nil_append, World.size_alloc, size_ext, World.size_setCell, size_setMap, World.size_drew, size_drewN, upd, List.set_cons_zero, List.set_cons_succ, if_true, if_false, reduceIte, not_false_eq_true, ne_lt0, ne_lt1, ne_lt2, ne_lt3, ne_lt4] at O | skip)
    (try clear cs)
    (try clear v1)
    (try clear v2)
    (try clear v3)
  refine (S.out _ O.fr).mono ?_
  rintro e w2 ⟨rfl, o⟩
  replace O := O.callp [] o
  clear o
  simp only [put, List.cons_append, List.nil_append] at O
  have cs := O.facts
  simp only [factsP, cellsP, roomP, foots_cons, foots_nil, foots_append, foot_pt, ptb, ptb_mapA, foot_mapA, factsP_mapA, foot_bun, List.append_nil, List.nil_append, List.cons_append, List.nodup_cons, List.nodup_nil, List.mem_cons, List.not_mem_nil, List.mem_singleton, List.forall_mem_cons, not_or, not_false_eq_true, and_true, true_and, or_false, false_or, forall_eq_or_imp, forall_eq, implies_true, Nat.zero_add, Nat.reduceAdd, and_assoc, ptb_listA, factsP_listA, Nat.mul_one, rdL, byteCells] at cs
  have v1 := V.out _ O.fr
  simp only [roomP, and_assoc] at v1
  go_wp2_with fail
  go_ret
  exact ⟨rfl, O⟩
end Go.Proofs.Ytomcahmgmmbmmaa
