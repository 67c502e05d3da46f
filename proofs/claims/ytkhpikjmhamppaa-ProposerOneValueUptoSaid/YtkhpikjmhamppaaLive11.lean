/- WALKS: proposer and learner where there is none; the live question. -/
import Derived.Test.YtkhpikjmhamppaaPromiseY11
import Derived.Test.YtkhpikjmhamppaaLearnY11
set_option linter.unusedVariables false
set_option linter.unusedSimpArgs false
namespace Go.Proofs.Ytkhpikjmhamppaa
open Go.RowKit Go.Tk

/-- a proposer, a learner as one part -/
def propA (pb : Nat) (mo : Option Nat) (p : Prop11) : Asn := bun (propL pb mo p)
def learnA (lb mb : Nat) (l : Learn11) : Asn := bun (learnL lb mb l)
theorem factsP_propA {w : World} {L : List Asn} {pb : Nat} {mo : Option Nat} {p : Prop11} : factsP w (propA pb mo p :: L) = factsP w L := rfl
theorem ptb_propA {L : List Asn} {pb : Nat} {mo : Option Nat} {p : Prop11} : ptb (propA pb mo p :: L) = ptb L := rfl
theorem factsP_learnA {w : World} {L : List Asn} {lb mb : Nat} {l : Learn11} : factsP w (learnA lb mb l :: L) = factsP w L := rfl
theorem ptb_learnA {L : List Asn} {lb mb : Nat} {l : Learn11} : ptb (learnA lb mb l :: L) = ptb L := rfl
theorem pre_bun {w : World} {l : List Asn} (h : Pre w [bun l]) : Pre w l := by
  have := Mem.open_ h
  simpa [Pre, foots, foot_bun] using this
theorem mem_bun {w w' : World} {l l' : List Asn} (h : Mem w (foots l) w' l') : Mem w (foots [bun l]) w' [bun l'] := by
  have h1 : Mem w (foots [bun l]) w' l' := by simpa [foots, foot_bun] using h
  exact Mem.shut (L := []) (by simpa using h1)
section
variable (w : World)
theorem pA_New (node n : Int) (h : 0 ≤ node ∧ node ≤ 255 ∧ 1 ≤ n ∧ n ≤ 9) : Calls Try.prog 9 #[.int .i64 node, .int .i64 n] w (fun e w' => e = .returned (.tuple #[.pointer (some ⟨w.heap.size, 0, none⟩), .int .i64 0]) ∧ Mem w [] w' [propA w.heap.size none (newP node n)]) :=
  (prop_New node n w h).mono fun _ _ ⟨he, hm⟩ => ⟨he, Mem.shut (L := []) (by simpa using hm)⟩
theorem pA_Begin (pb : Nat) (mo : Option Nat) (p : Prop11) (round : Int) (v : ByteArray) (h : Pre w [propA pb mo p]) (hp : 0 ≤ p.node ∧ p.node ≤ 255) (hr : ¬ (round = 0)) (hn : ¬ (round ≤ p.b.r)) :
    Calls Try.prog 11 #[.pointer (some ⟨pb, 0, none⟩), .int .u32 round, .string v] w (fun e w' => e = .returned (.tuple #[.agg #[.int .u32 round, .int .u8 p.node], .int .i64 0]) ∧
      ∃ mb, Mem w (foots [propA pb mo p]) w' [propA pb (some mb) ⟨p.node, p.n, ⟨round, p.node⟩, [], noA, v⟩]) :=
  (prop_Begin w pb mo p round v (pre_bun h) hp hr hn).mono fun _ _ ⟨he, mb, hm⟩ => ⟨he, mb, mem_bun hm⟩
theorem pA_Promise_yes (pb mb : Nat) (p : Prop11) (f : Int) (a : Acc) (h : Pre w [propA pb (some mb) p]) (h0 : ¬ p.b.r = 0) (h1 : 0 ≤ f) (h2 : f < p.n) (h3 : p.n ≤ 9) (hd : (mget p.prom f).getD false = false) :
    Calls Try.prog 12 #[.pointer (some ⟨pb, 0, none⟩), .int .i64 f, p.b.val, a.val] w (fun e w' => e = .returned (.tuple #[.string (promise11 p f p.b a).1, .bool (promise11 p f p.b a).2.1]) ∧ Mem w (foots [propA pb (some mb) p]) w' [propA pb (some mb) (promise11 p f p.b a).2.2]) :=
  (prop_Promise_yes w pb mb p f a (pre_bun h) h0 h1 h2 h3 hd).mono fun _ _ ⟨he, hm⟩ => ⟨he, mem_bun hm⟩
theorem lA_New (n : Int) (h : 1 ≤ n ∧ n ≤ 9) : Calls Try.prog 14 #[.int .i64 n] w (fun e w' => e = .returned (.tuple #[.pointer (some ⟨w.heap.size + 1, 0, none⟩), .int .i64 0]) ∧ Mem w [] w' [learnA (w.heap.size + 1) w.heap.size (newL n)]) :=
  (learn_New n w h).mono fun _ _ ⟨he, hm⟩ => ⟨he, Mem.shut (L := []) (by simpa using hm)⟩
theorem lA_Accepted_yes (lb mb : Nat) (l : Learn11) (f : Int) (b : Ballot) (v : ByteArray) (h : Pre w [learnA lb mb l]) (h0 : l.is = false) (h1 : 0 ≤ f) (h2 : f < l.n) (h3 : l.n ≤ 9) (hsz : l.said.length ≤ 9) :
    Calls Try.prog 15 #[.pointer (some ⟨lb, 0, none⟩), .int .i64 f, b.val, .string v] w (fun e w' => e = .returned (.tuple #[.string (accepted11 l f b v).1, .bool (accepted11 l f b v).2.1]) ∧ Mem w (foots [learnA lb mb l]) w' [learnA lb mb (accepted11 l f b v).2.2]) :=
  (learn_Accepted_yes w lb mb l f b v (pre_bun h) h0 h1 h2 h3 hsz).mono fun _ _ ⟨he, hm⟩ => ⟨he, mem_bun hm⟩
end
def accB : Acc := ⟨true, noB, ⟨#[98]⟩⟩
theorem l1 : promise11 ⟨1, 3, ⟨1, 1⟩, [], noA, ⟨#[97]⟩⟩ 0 ⟨1, 1⟩ noA = (.empty, false, ⟨1, 3, ⟨1, 1⟩, [(0, true)], noA, ⟨#[97]⟩⟩) := by
  simp [promise11, noA, mset]
theorem l2 : promise11 ⟨1, 3, ⟨1, 1⟩, [(0, true)], noA, ⟨#[97]⟩⟩ 2 ⟨1, 1⟩ accB = (⟨#[98]⟩, true, ⟨1, 3, ⟨1, 1⟩, [(0, true), (2, true)], accB, ⟨#[97]⟩⟩) := by
  simp [promise11, noA, accB, mset, mget_cons]
theorem l3 : accepted11 (newL 3) 0 ⟨1, 1⟩ ⟨#[98]⟩ = (.empty, false, ⟨3, [(0, ⟨⟨1, 1⟩, ⟨#[98]⟩⟩)], .empty, false⟩) := by
  simp [accepted11, newL, stale11, told11, Said.same, mset]
theorem l4 : accepted11 ⟨3, [(0, ⟨⟨1, 1⟩, ⟨#[98]⟩⟩)], .empty, false⟩ 1 ⟨1, 1⟩ ⟨#[98]⟩ = (⟨#[98]⟩, true, ⟨3, [(0, ⟨⟨1, 1⟩, ⟨#[98]⟩⟩), (1, ⟨⟨1, 1⟩, ⟨#[98]⟩⟩)], ⟨#[98]⟩, true⟩) := by
  simp [accepted11, stale11, told11, Said.same, mset, mget_cons]
set_option maxRecDepth 100000 in
set_option maxHeartbeats 8000000 in
theorem alive11 (w : World) : Calls Try.prog 10 #[] w (fun e w' => e = .returned (.bool true) ∧ Mem w [] w' []) := by
  have O : Mem w [] w [] := Mem.begin
  have P1 := Lib.hid (fun W pb mb h => pA_Promise_yes W pb mb ⟨1, 3, ⟨1, 1⟩, [], noA, ⟨#[97]⟩⟩ 0 noA h (by simp) (by omega) (by simp) (by simp) (by simp))
  have P2 := Lib.hid (fun W pb mb h => pA_Promise_yes W pb mb ⟨1, 3, ⟨1, 1⟩, [(0, true)], noA, ⟨#[97]⟩⟩ 2 accB h (by simp) (by omega) (by simp) (by simp) (by simp [mget_cons]))
  have A1 := Lib.hid (fun W lb mb h => lA_Accepted_yes W lb mb (newL 3) 0 ⟨1, 1⟩ ⟨#[98]⟩ h rfl (by omega) (by simp [newL]) (by simp [newL]) (by simp [newL]))
  have A2 := Lib.hid (fun W lb mb h => lA_Accepted_yes W lb mb ⟨3, [(0, ⟨⟨1, 1⟩, ⟨#[98]⟩⟩)], .empty, false⟩ 1 ⟨1, 1⟩ ⟨#[98]⟩ h rfl (by omega) (by simp) (by simp) (by simp))
  simp only [l1, l2, l3, l4] at P1 P2 A1 A2
  simp only [Ballot.val, Acc.val, noA, noB, accB] at P1 P2 A1 A2
  go_enter Try.func10, Try.ntmps10
  have cs := O.facts
  simp only [factsP, cellsP, roomP, foots_cons, foots_nil, foots_append, foot_pt, ptb, ptb_mapA, foot_mapA, factsP_mapA, foot_bun, List.append_nil, List.nil_append, List.cons_append, List.nodup_cons, List.nodup_nil, List.mem_cons, List.not_mem_nil, List.mem_singleton, List.forall_mem_cons, not_or, not_false_eq_true, and_true, true_and, or_false, false_or, forall_eq_or_imp, forall_eq, implies_true, Nat.zero_add, Nat.reduceAdd, and_assoc, ptb_propA, factsP_propA, ptb_learnA, factsP_learnA] at cs
  go_wp2_with fail
  first | apply Mem.atCall | apply Mem.atCode | apply Mem.atList
  case h => repeat' (first | (with_reducible exact O) | (with_reducible apply Mem.drew) | (with_reducible apply Mem.drewN) | (with_reducible apply Mem.ext) | (with_reducible apply Mem.alloc) | (with_reducible apply Mem.setCell) | (simp only [ptb, ptb_upd, foots_cons, List.mem_cons, World.size_alloc, size_ext, World.size_setCell, true_or, or_true, eq_self_iff_true]))
  case' k =>
    intro w1 O'
    (try clear O)
    have O := O'
    clear O'
    (first | simp only [sel, rst, List.cons_append, List.nil_append, World.size_alloc, size_ext, World.size_setCell, size_setMap, World.size_drew, size_drewN, upd, List.set_cons_zero, List.set_cons_succ, if_true, if_false, reduceIte, not_false_eq_true, ne_lt0, ne_lt1, ne_lt2, ne_lt3, ne_lt4, cs] at O | simp only [sel, rst, List.cons_append, List.nil_append, World.size_alloc, size_ext, World.size_setCell, size_setMap, World.size_drew, size_drewN, upd, List.set_cons_zero, List.set_cons_succ, if_true, if_false, reduceIte, not_false_eq_true, ne_lt0, ne_lt1, ne_lt2, ne_lt3, ne_lt4] at O | skip)
    (try clear cs)
    (try clear v1)
    (try clear v2)
    (try clear v3)
  refine (pA_New _ 1 3 (by omega)).mono ?_
  rintro e w2 ⟨rfl, o⟩
  replace O := O.callp [] o
  clear o
  simp only [put, List.cons_append, List.nil_append] at O
  have cs := O.facts
  simp only [factsP, cellsP, roomP, foots_cons, foots_nil, foots_append, foot_pt, ptb, ptb_mapA, foot_mapA, factsP_mapA, foot_bun, List.append_nil, List.nil_append, List.cons_append, List.nodup_cons, List.nodup_nil, List.mem_cons, List.not_mem_nil, List.mem_singleton, List.forall_mem_cons, not_or, not_false_eq_true, and_true, true_and, or_false, false_or, forall_eq_or_imp, forall_eq, implies_true, Nat.zero_add, Nat.reduceAdd, and_assoc, ptb_propA, factsP_propA, ptb_learnA, factsP_learnA] at cs
  go_wp2_with fail
  first | apply Mem.atCall | apply Mem.atCode | apply Mem.atList
  case h => repeat' (first | (with_reducible exact O) | (with_reducible apply Mem.drew) | (with_reducible apply Mem.drewN) | (with_reducible apply Mem.ext) | (with_reducible apply Mem.alloc) | (with_reducible apply Mem.setCell) | (simp only [ptb, ptb_upd, foots_cons, List.mem_cons, World.size_alloc, size_ext, World.size_setCell, true_or, or_true, eq_self_iff_true]))
  case' k =>
    intro w3 O'
    (try clear O)
    have O := O'
    clear O'
    (first | simp only [sel, rst, List.cons_append, List.nil_append, World.size_alloc, size_ext, World.size_setCell, size_setMap, World.size_drew, size_drewN, upd, List.set_cons_zero, List.set_cons_succ, if_true, if_false, reduceIte, not_false_eq_true, ne_lt0, ne_lt1, ne_lt2, ne_lt3, ne_lt4, cs] at O | simp only [sel, rst, List.cons_append, List.nil_append, World.size_alloc, size_ext, World.size_setCell, size_setMap, World.size_drew, size_drewN, upd, List.set_cons_zero, List.set_cons_succ, if_true, if_false, reduceIte, not_false_eq_true, ne_lt0, ne_lt1, ne_lt2, ne_lt3, ne_lt4] at O | skip)
    (try clear cs)
    (try clear v1)
    (try clear v2)
    (try clear v3)
  refine (lA_New _ 3 (by omega)).mono ?_
  rintro e w4 ⟨rfl, o⟩
  replace O := O.callp [] o
  clear o
  simp only [put, List.cons_append, List.nil_append] at O
  have cs := O.facts
  simp only [factsP, cellsP, roomP, foots_cons, foots_nil, foots_append, foot_pt, ptb, ptb_mapA, foot_mapA, factsP_mapA, foot_bun, List.append_nil, List.nil_append, List.cons_append, List.nodup_cons, List.nodup_nil, List.mem_cons, List.not_mem_nil, List.mem_singleton, List.forall_mem_cons, not_or, not_false_eq_true, and_true, true_and, or_false, false_or, forall_eq_or_imp, forall_eq, implies_true, Nat.zero_add, Nat.reduceAdd, and_assoc, ptb_propA, factsP_propA, ptb_learnA, factsP_learnA] at cs
  go_wp2_with fail
  first | apply Mem.atCall | apply Mem.atCode | apply Mem.atList
  case h => repeat' (first | (with_reducible exact O) | (with_reducible apply Mem.drew) | (with_reducible apply Mem.drewN) | (with_reducible apply Mem.ext) | (with_reducible apply Mem.alloc) | (with_reducible apply Mem.setCell) | (simp only [ptb, ptb_upd, foots_cons, List.mem_cons, World.size_alloc, size_ext, World.size_setCell, true_or, or_true, eq_self_iff_true]))
  case' k =>
    intro w5 O'
    (try clear O)
    have O := O'
    clear O'
    (first | simp only [sel, rst, List.cons_append, List.nil_append, World.size_alloc, size_ext, World.size_setCell, size_setMap, World.size_drew, size_drewN, upd, List.set_cons_zero, List.set_cons_succ, if_true, if_false, reduceIte, not_false_eq_true, ne_lt0, ne_lt1, ne_lt2, ne_lt3, ne_lt4, cs] at O | simp only [sel, rst, List.cons_append, List.nil_append, World.size_alloc, size_ext, World.size_setCell, size_setMap, World.size_drew, size_drewN, upd, List.set_cons_zero, List.set_cons_succ, if_true, if_false, reduceIte, not_false_eq_true, ne_lt0, ne_lt1, ne_lt2, ne_lt3, ne_lt4] at O | skip)
    (try clear cs)
    (try clear v1)
    (try clear v2)
    (try clear v3)
  refine (pA_Begin _ _ _ _ 1 ⟨#[97]⟩ (O.pre [false, true]) (by simp [newP]) (by simp) (by simp [newP, noB])).mono ?_
  rintro e w6 ⟨rfl, mb, o⟩
  replace O := O.callp [false, true] o
  clear o
  simp only [put, List.cons_append, List.nil_append] at O
  simp only [newP] at O
  have cs := O.facts
  simp only [factsP, cellsP, roomP, foots_cons, foots_nil, foots_append, foot_pt, ptb, ptb_mapA, foot_mapA, factsP_mapA, foot_bun, List.append_nil, List.nil_append, List.cons_append, List.nodup_cons, List.nodup_nil, List.mem_cons, List.not_mem_nil, List.mem_singleton, List.forall_mem_cons, not_or, not_false_eq_true, and_true, true_and, or_false, false_or, forall_eq_or_imp, forall_eq, implies_true, Nat.zero_add, Nat.reduceAdd, and_assoc, ptb_propA, factsP_propA, ptb_learnA, factsP_learnA] at cs
  go_wp2_with fail
  first | apply Mem.atCall | apply Mem.atCode | apply Mem.atList
  case h => repeat' (first | (with_reducible exact O) | (with_reducible apply Mem.drew) | (with_reducible apply Mem.drewN) | (with_reducible apply Mem.ext) | (with_reducible apply Mem.alloc) | (with_reducible apply Mem.setCell) | (simp only [ptb, ptb_upd, foots_cons, List.mem_cons, World.size_alloc, size_ext, World.size_setCell, true_or, or_true, eq_self_iff_true]))
  case' k =>
    intro w7 O'
    (try clear O)
    have O := O'
    clear O'
    (first | simp only [sel, rst, List.cons_append, List.nil_append, World.size_alloc, size_ext, World.size_setCell, size_setMap, World.size_drew, size_drewN, upd, List.set_cons_zero, List.set_cons_succ, if_true, if_false, reduceIte, not_false_eq_true, ne_lt0, ne_lt1, ne_lt2, ne_lt3, ne_lt4, cs] at O | simp only [sel, rst, List.cons_append, List.nil_append, World.size_alloc, size_ext, World.size_setCell, size_setMap, World.size_drew, size_drewN, upd, List.set_cons_zero, List.set_cons_succ, if_true, if_false, reduceIte, not_false_eq_true, ne_lt0, ne_lt1, ne_lt2, ne_lt3, ne_lt4] at O | skip)
    (try clear cs)
    (try clear v1)
    (try clear v2)
    (try clear v3)
  refine (P1.out w7 _ _ (O.pre [false, false, true])).mono ?_
  rintro e w8 ⟨rfl, o⟩
  replace O := O.callp [false, false, true] o
  clear o
  simp only [put, List.cons_append, List.nil_append] at O
  have cs := O.facts
  simp only [factsP, cellsP, roomP, foots_cons, foots_nil, foots_append, foot_pt, ptb, ptb_mapA, foot_mapA, factsP_mapA, foot_bun, List.append_nil, List.nil_append, List.cons_append, List.nodup_cons, List.nodup_nil, List.mem_cons, List.not_mem_nil, List.mem_singleton, List.forall_mem_cons, not_or, not_false_eq_true, and_true, true_and, or_false, false_or, forall_eq_or_imp, forall_eq, implies_true, Nat.zero_add, Nat.reduceAdd, and_assoc, ptb_propA, factsP_propA, ptb_learnA, factsP_learnA] at cs
  go_wp2_with fail
  first | apply Mem.atCall | apply Mem.atCode | apply Mem.atList
  case h => repeat' (first | (with_reducible exact O) | (with_reducible apply Mem.drew) | (with_reducible apply Mem.drewN) | (with_reducible apply Mem.ext) | (with_reducible apply Mem.alloc) | (with_reducible apply Mem.setCell) | (simp only [ptb, ptb_upd, foots_cons, List.mem_cons, World.size_alloc, size_ext, World.size_setCell, true_or, or_true, eq_self_iff_true]))
  case' k =>
    intro w9 O'
    (try clear O)
    have O := O'
    clear O'
    (first | simp only [sel, rst, List.cons_append, List.nil_append, World.size_alloc, size_ext, World.size_setCell, size_setMap, World.size_drew, size_drewN, upd, List.set_cons_zero, List.set_cons_succ, if_true, if_false, reduceIte, not_false_eq_true, ne_lt0, ne_lt1, ne_lt2, ne_lt3, ne_lt4, cs] at O | simp only [sel, rst, List.cons_append, List.nil_append, World.size_alloc, size_ext, World.size_setCell, size_setMap, World.size_drew, size_drewN, upd, List.set_cons_zero, List.set_cons_succ, if_true, if_false, reduceIte, not_false_eq_true, ne_lt0, ne_lt1, ne_lt2, ne_lt3, ne_lt4] at O | skip)
    (try clear cs)
    (try clear v1)
    (try clear v2)
    (try clear v3)
  refine (P2.out w9 _ _ (O.pre [false, false, true])).mono ?_
  rintro e wa ⟨rfl, o⟩
  replace O := O.callp [false, false, true] o
  clear o
  simp only [put, List.cons_append, List.nil_append] at O
  have cs := O.facts
  simp only [factsP, cellsP, roomP, foots_cons, foots_nil, foots_append, foot_pt, ptb, ptb_mapA, foot_mapA, factsP_mapA, foot_bun, List.append_nil, List.nil_append, List.cons_append, List.nodup_cons, List.nodup_nil, List.mem_cons, List.not_mem_nil, List.mem_singleton, List.forall_mem_cons, not_or, not_false_eq_true, and_true, true_and, or_false, false_or, forall_eq_or_imp, forall_eq, implies_true, Nat.zero_add, Nat.reduceAdd, and_assoc, ptb_propA, factsP_propA, ptb_learnA, factsP_learnA] at cs
  go_wp2_with fail
  first | apply Mem.atCall | apply Mem.atCode | apply Mem.atList
  case h => repeat' (first | (with_reducible exact O) | (with_reducible apply Mem.drew) | (with_reducible apply Mem.drewN) | (with_reducible apply Mem.ext) | (with_reducible apply Mem.alloc) | (with_reducible apply Mem.setCell) | (simp only [ptb, ptb_upd, foots_cons, List.mem_cons, World.size_alloc, size_ext, World.size_setCell, true_or, or_true, eq_self_iff_true]))
  case' k =>
    intro wb O'
    (try clear O)
    have O := O'
    clear O'
    (first | simp only [sel, rst, List.cons_append, List.nil_append, World.size_alloc, size_ext, World.size_setCell, size_setMap, World.size_drew, size_drewN, upd, List.set_cons_zero, List.set_cons_succ, if_true, if_false, reduceIte, not_false_eq_true, ne_lt0, ne_lt1, ne_lt2, ne_lt3, ne_lt4, cs] at O | simp only [sel, rst, List.cons_append, List.nil_append, World.size_alloc, size_ext, World.size_setCell, size_setMap, World.size_drew, size_drewN, upd, List.set_cons_zero, List.set_cons_succ, if_true, if_false, reduceIte, not_false_eq_true, ne_lt0, ne_lt1, ne_lt2, ne_lt3, ne_lt4] at O | skip)
    (try clear cs)
    (try clear v1)
    (try clear v2)
    (try clear v3)
  refine (A1.out wb _ _ (O.pre [false, true])).mono ?_
  rintro e wc ⟨rfl, o⟩
  replace O := O.callp [false, true] o
  clear o
  simp only [put, List.cons_append, List.nil_append] at O
  have cs := O.facts
  simp only [factsP, cellsP, roomP, foots_cons, foots_nil, foots_append, foot_pt, ptb, ptb_mapA, foot_mapA, factsP_mapA, foot_bun, List.append_nil, List.nil_append, List.cons_append, List.nodup_cons, List.nodup_nil, List.mem_cons, List.not_mem_nil, List.mem_singleton, List.forall_mem_cons, not_or, not_false_eq_true, and_true, true_and, or_false, false_or, forall_eq_or_imp, forall_eq, implies_true, Nat.zero_add, Nat.reduceAdd, and_assoc, ptb_propA, factsP_propA, ptb_learnA, factsP_learnA] at cs
  go_wp2_with fail
  first | apply Mem.atCall | apply Mem.atCode | apply Mem.atList
  case h => repeat' (first | (with_reducible exact O) | (with_reducible apply Mem.drew) | (with_reducible apply Mem.drewN) | (with_reducible apply Mem.ext) | (with_reducible apply Mem.alloc) | (with_reducible apply Mem.setCell) | (simp only [ptb, ptb_upd, foots_cons, List.mem_cons, World.size_alloc, size_ext, World.size_setCell, true_or, or_true, eq_self_iff_true]))
  case' k =>
    intro wd O'
    (try clear O)
    have O := O'
    clear O'
    (first | simp only [sel, rst, List.cons_append, List.nil_append, World.size_alloc, size_ext, World.size_setCell, size_setMap, World.size_drew, size_drewN, upd, List.set_cons_zero, List.set_cons_succ, if_true, if_false, reduceIte, not_false_eq_true, ne_lt0, ne_lt1, ne_lt2, ne_lt3, ne_lt4, cs] at O | simp only [sel, rst, List.cons_append, List.nil_append, World.size_alloc, size_ext, World.size_setCell, size_setMap, World.size_drew, size_drewN, upd, List.set_cons_zero, List.set_cons_succ, if_true, if_false, reduceIte, not_false_eq_true, ne_lt0, ne_lt1, ne_lt2, ne_lt3, ne_lt4] at O | skip)
    (try clear cs)
    (try clear v1)
    (try clear v2)
    (try clear v3)
  refine (A2.out wd _ _ (O.pre [false, true])).mono ?_
  rintro e we ⟨rfl, o⟩
  replace O := O.callp [false, true] o
  clear o
  simp only [put, List.cons_append, List.nil_append] at O
  have cs := O.facts
  simp only [factsP, cellsP, roomP, foots_cons, foots_nil, foots_append, foot_pt, ptb, ptb_mapA, foot_mapA, factsP_mapA, foot_bun, List.append_nil, List.nil_append, List.cons_append, List.nodup_cons, List.nodup_nil, List.mem_cons, List.not_mem_nil, List.mem_singleton, List.forall_mem_cons, not_or, not_false_eq_true, and_true, true_and, or_false, false_or, forall_eq_or_imp, forall_eq, implies_true, Nat.zero_add, Nat.reduceAdd, and_assoc, ptb_propA, factsP_propA, ptb_learnA, factsP_learnA] at cs
  go_wp2_with fail
  go_ret
  exact ⟨by simp, O.fr0⟩
end Go.Proofs.Ytkhpikjmhamppaa
