/- PROVED: a reader of frames answers as the document says at each step (FrameReads): for arguments of bulk at most 1048576, the law returns true, and each argument reads behind the call as it read before. -/
import Derived.Test.YtomcahmgmmbmmaaLawStream03
import Derived.Test.YtomcahmgmmbmmaaLawWraps03
import Derived.Test.YtomcahmgmmbmmaaRefR03
set_option linter.unusedVariables false
set_option linter.unusedSimpArgs false
namespace Go.Proofs.Ytomcahmgmmbmmaa
open Go.RowKit Go.WideShapes Go.ChangeShapes Go.ChangeAt Go.Tk
def rrA (pb : Nat) (A : Option Addr) (c : Nat) (l : List UInt8) : Asn := bun (rrL pb A c l)
theorem factsP_rrA {w : World} {L : List Asn} {pb c : Nat} {A : Option Addr} {l : List UInt8} : factsP w (rrA pb A c l :: L) = factsP w L := rfl
theorem ptb_rrA {L : List Asn} {pb c : Nat} {A : Option Addr} {l : List UInt8} : ptb (rrA pb A c l :: L) = ptb L := rfl
def anyA (X : List Asn) : Asn := bun X
theorem factsP_anyA {w : World} {L X : List Asn} : factsP w (anyA X :: L) = factsP w L := rfl
theorem ptb_anyA {L X : List Asn} : ptb (anyA X :: L) = ptb L := rfl
theorem nextP_len (l : List UInt8) : (nextP l).1.length ≤ l.length ∧ (nextP l).2.2.2.length ≤ l.length := by
  have hb : ∀ m : List UInt8, ((bodyP m).1.getD []).length ≤ m.length := by intro m; unfold bodyP; split <;> simp
  unfold nextP
  split
  · simp
  · split
    · simp
    · split
      · simp
      · refine ⟨?_, by simp⟩
        have := hb (l.take (faultP l).1)
        simp only [List.length_take] at this
        simp only
        omega
def feedL (l m : List UInt8) : List UInt8 := if 131072 < l.length + m.length then l else l ++ m
def feedE (l m : List UInt8) : Int := if 131072 < l.length + m.length then 35 else 0
theorem feedL_len (l m : List UInt8) (h : l.length ≤ 131072) : (feedL l m).length ≤ 131072 := by
  unfold feedL
  split
  · exact h
  · rw [List.length_append]; omega
theorem feedE_or (l m : List UInt8) : feedE l m = 0 ∨ feedE l m = 35 := by
  unfold feedE
  split
  · exact .inr rfl
  · exact .inl rfl
theorem call0' {w w' : World} {l : List Asn} (h : Pre w l) (hm : Mem w [] w' []) : Mem w (foots l) w' l := by
  have := h.call [] hm
  simpa [Tk.sel, rst] using this
section
variable (w : World)
theorem rdA_Feed_any (pb : Nat) (A : Option Addr) (c : Nat) (l : List UInt8) (B : Option Addr) (d : Nat) (m : List UInt8) (h : Pre w [rdA pb A c l]) (hr : Rd w B m) (hl : l.length ≤ 131072) (hm : m.length ≤ 2000000) :
    Calls Try.prog 18 #[.pointer (some ⟨pb, 0, none⟩), .slice B m.length d] w (fun e w' => ∃ A' c', e = .returned (.int .i64 (feedE l m)) ∧ Mem w (foots [rdA pb A c l]) w' [rdA pb A' c' (feedL l m)]) := by
  unfold feedE feedL
  by_cases hb : 131072 < l.length + m.length
  · rw [if_pos hb, if_pos hb]
    exact (fr_Feed_no w pb A c l B d m.length (pre_bun' h) hl hb hm).mono fun _ _ ⟨he, hm⟩ => ⟨A, c, he, call0' h hm⟩
  · rw [if_neg hb, if_neg hb]
    exact (rdA_Feed w pb A c l B d m h hr (by omega)).mono fun _ _ ⟨he, A', c', hm⟩ => ⟨A', c', he, hm⟩
theorem rrA_Feed_any (pb : Nat) (A : Option Addr) (c : Nat) (l : List UInt8) (B : Option Addr) (d : Nat) (m : List UInt8) (h : Pre w [rrA pb A c l]) (hr : Rd w B m) (hl : l.length ≤ 131072) (hm : m.length ≤ 2000000) :
    Calls Try.prog 22 #[.pointer (some ⟨pb, 0, none⟩), .slice B m.length d] w (fun e w' => ∃ A' c', e = .returned (.bool (decide (feedE l m = 0))) ∧ Mem w (foots [rrA pb A c l]) w' [rrA pb A' c' (feedL l m)]) := by
  unfold feedE feedL
  by_cases hb : 131072 < l.length + m.length
  · rw [if_pos hb, if_pos hb]
    exact (rr_Feed_no w pb A c l B d m.length (pre_bun' h) hl hb hm).mono fun _ _ ⟨he, hm⟩ => ⟨A, c, he, call0' h hm⟩
  · rw [if_neg hb, if_neg hb]
    exact (rr_Feed w pb A c l B d m (pre_bun' h) hr (by omega)).mono fun _ _ ⟨he, A', c', hm⟩ => ⟨A', c', he, mem_bun' hm⟩
theorem rrA_Next (pb : Nat) (A : Option Addr) (c : Nat) (l : List UInt8) (h : Pre w [rrA pb A c l]) (hl : l.length ≤ 131072) :
    Calls Try.prog 23 #[.pointer (some ⟨pb, 0, none⟩)] w (fun e w' => ∃ B d A' c', e = .returned (.tuple #[.slice B (nextP l).1.length d, .bool (nextP l).2.1, .int .i64 (nextP l).2.2.1]) ∧ Mem w (foots [rrA pb A c l]) w' [rrA pb A' c' (nextP l).2.2.2, bytesA B d (nextP l).1]) :=
  (rr_Next w pb A c l (pre_bun' h) hl).mono fun _ W' ⟨B, d, A', c', he, hm⟩ => ⟨B, d, A', c', he, by
    have h1 : Mem w (foots [rrA pb A c l]) W' (bytesA B d (nextP l).1 :: rrL pb A' c' (nextP l).2.2.2) := by simpa [rrA, foots, foot_bun] using hm
    have h2 := h1.perm (L' := rrL pb A' c' (nextP l).2.2.2 ++ [bytesA B d (nextP l).1]) (List.perm_append_singleton _ _).symm
    exact Mem.shut h2⟩
end
theorem rr_facts {w0 w : World} {F : List Nat} {L : List Asn} (l : List Asn) (h : Mem w0 F w L) (hm : bun l ∈ L) : factsP w l := facts_of l (h.hold _ hm) (fun b hb => h.lt b (mem_foots hm hb))
structure O03 where
  kind : Int
  b : Bs
def O03.cells (o : O03) : List Value := [.int .i64 o.kind, o.b.val]
def O03.ok (W : World) (o : O03) : Prop := Rd W o.b.A o.b.l ∧ o.b.l.length ≤ o.b.c ∧ o.b.l.length ≤ 1048576
theorem cells_o03 : Try.prog.cellsOf 47 = 2 := by kernel_rfl
theorem len2r {l : List Value} (h : l.length = 2) : ∃ a b, l = [a, b] := by
  match l, h with
  | [a, b], _ => exact ⟨a, b, rfl⟩
theorem read_o03 {w : World} {f : Nat} {cs : List Value} (h : Typed Try.prog w 1048576 f 47 cs) : ∃ o : O03, o.ok w ∧ cs = o.cells := by
  obtain ⟨f', hl, hf⟩ := typed_struct Try.underlying47 h
  obtain ⟨c0, c1, rfl⟩ := len2r (hl.trans cells_o03)
  have h0 : Typed Try.prog w 1048576 f' 3 (([c0, c1].drop 0).take (Try.prog.cellsOf 3)) := hf 0 _ rfl
  have h1 : Typed Try.prog w 1048576 f' 22 (([c0, c1].drop 1).take (Try.prog.cellsOf 22)) := hf 1 _ rfl
  simp only [cells_int', cells_bytes] at h0 h1
  obtain ⟨k, e0, _⟩ := typed_int Try.underlying3 h0
  obtain ⟨b, hb, e1⟩ := read_bs h1
  simp [bsCells] at e0 e1
  exact ⟨⟨k, b⟩, hb, by simp only [O03.cells, e0, e1]⟩
set_option maxRecDepth 100000 in
set_option maxHeartbeats 16000000 in
theorem walkReads (sv : Value) (l : List O03) (w : World) (hs : ArgList w 2 O03.cells sv l) (hok : ∀ o ∈ l, o.ok w) :
    Calls Try.prog 6 #[sv] w (fun e w' => e = .returned (.bool true) ∧ Below w.heap.size w w') := by
  obtain ⟨hl, A, cp, rfl, hcs⟩ := hs
  have HC := Lib.hid hcs
  have HO := Lib.hid hok
  clear hcs hok
  have O : Mem w [] w [] := Mem.begin
  go_enter Try.func6, Try.ntmps6
  have cs := O.facts
  simp only [factsP, cellsP, roomP, foots_cons, foots_nil, foots_append, foot_pt, ptb, ptb_mapA, foot_mapA, factsP_mapA, foot_bun, List.append_nil, List.nil_append, List.cons_append, List.nodup_cons, List.nodup_nil, List.mem_cons, List.not_mem_nil, List.mem_singleton, List.forall_mem_cons, not_or, not_false_eq_true, and_true, true_and, or_false, false_or, forall_eq_or_imp, forall_eq, implies_true, Nat.zero_add, Nat.reduceAdd, and_assoc, ptb_listA, factsP_listA, Nat.mul_one, byteCells, rrL, ptb_rdA, factsP_rdA, ptb_rrA, factsP_rrA, ptb_anyA, factsP_anyA, Bs.val] at cs
  go_wp2_with fail
  first | apply Mem.atCall | apply Mem.atCode | apply Mem.atList
  case h => repeat' (first | (with_reducible exact O) | (with_reducible apply Mem.drew) | (with_reducible apply Mem.drewN) | (with_reducible apply Mem.ext) | (with_reducible apply Mem.alloc) | (with_reducible apply Mem.setCell) | (simp only [ptb, ptb_upd, foots_cons, List.mem_cons, World.size_alloc, size_ext, World.size_setCell, true_or, or_true, eq_self_iff_true]))
  case' k =>
    intro w1 O'
    (try clear O)
    have O := O'
    clear O'
    (first | simp only [sel, rst, List.cons_append, List.nil_append, World.size_alloc, size_ext, World.size_setCell, size_setMap, World.size_drew, size_drewN, upd, List.set_cons_zero, List.set_cons_succ, if_true, if_false, reduceIte, not_false_eq_true, ne_lt0, ne_lt1, ne_lt2, ne_lt3, ne_lt4, cs] at O | simp only [sel, rst, List.cons_append, List.nil_append, World.size_alloc, size_ext, World.size_setCell, size_setMap, World.size_drew, size_drewN, upd, List.set_cons_zero, List.set_cons_succ, if_true, if_false, reduceIte, not_false_eq_true, ne_lt0, ne_lt1, ne_lt2, ne_lt3, ne_lt4] at O | skip)
    (try clear cs)
    (try clear v1)
    (try clear v2)
    (try clear v3)
  refine (law_awake _).mono ?_
  rintro e w2 ⟨rfl, o⟩
  replace O := O.callp [] o
  clear o
  simp only [put, List.cons_append, List.nil_append] at O
  have cs := O.facts
  simp only [factsP, cellsP, roomP, foots_cons, foots_nil, foots_append, foot_pt, ptb, ptb_mapA, foot_mapA, factsP_mapA, foot_bun, List.append_nil, List.nil_append, List.cons_append, List.nodup_cons, List.nodup_nil, List.mem_cons, List.not_mem_nil, List.mem_singleton, List.forall_mem_cons, not_or, not_false_eq_true, and_true, true_and, or_false, false_or, forall_eq_or_imp, forall_eq, implies_true, Nat.zero_add, Nat.reduceAdd, and_assoc, ptb_listA, factsP_listA, Nat.mul_one, byteCells, rrL, ptb_rdA, factsP_rdA, ptb_rrA, factsP_rrA, ptb_anyA, factsP_anyA, Bs.val] at cs
  go_wp2_with fail
  first | apply Mem.atCall | apply Mem.atCode | apply Mem.atList
  case h => repeat' (first | (with_reducible exact O) | (with_reducible apply Mem.drew) | (with_reducible apply Mem.drewN) | (with_reducible apply Mem.ext) | (with_reducible apply Mem.alloc) | (with_reducible apply Mem.setCell) | (simp only [ptb, ptb_upd, foots_cons, List.mem_cons, World.size_alloc, size_ext, World.size_setCell, true_or, or_true, eq_self_iff_true]))
  case' k =>
    intro w3 O'
    (try clear O)
    have O := O'
    clear O'
    (first | simp only [sel, rst, List.cons_append, List.nil_append, World.size_alloc, size_ext, World.size_setCell, size_setMap, World.size_drew, size_drewN, upd, List.set_cons_zero, List.set_cons_succ, if_true, if_false, reduceIte, not_false_eq_true, ne_lt0, ne_lt1, ne_lt2, ne_lt3, ne_lt4, cs] at O | simp only [sel, rst, List.cons_append, List.nil_append, World.size_alloc, size_ext, World.size_setCell, size_setMap, World.size_drew, size_drewN, upd, List.set_cons_zero, List.set_cons_succ, if_true, if_false, reduceIte, not_false_eq_true, ne_lt0, ne_lt1, ne_lt2, ne_lt3, ne_lt4] at O | skip)
    (try clear cs)
    (try clear v1)
    (try clear v2)
    (try clear v3)
  refine (rdA_New _).mono ?_
  rintro e w4 ⟨pb, rfl, o⟩
  replace O := O.callp [] o
  clear o
  simp only [put, List.cons_append, List.nil_append] at O
  have cs := O.facts
  simp only [factsP, cellsP, roomP, foots_cons, foots_nil, foots_append, foot_pt, ptb, ptb_mapA, foot_mapA, factsP_mapA, foot_bun, List.append_nil, List.nil_append, List.cons_append, List.nodup_cons, List.nodup_nil, List.mem_cons, List.not_mem_nil, List.mem_singleton, List.forall_mem_cons, not_or, not_false_eq_true, and_true, true_and, or_false, false_or, forall_eq_or_imp, forall_eq, implies_true, Nat.zero_add, Nat.reduceAdd, and_assoc, ptb_listA, factsP_listA, Nat.mul_one, byteCells, rrL, ptb_rdA, factsP_rdA, ptb_rrA, factsP_rrA, ptb_anyA, factsP_anyA, Bs.val] at cs
  go_upto_region 4 with fail
  first | apply Mem.atCall | apply Mem.atCode | apply Mem.atList
  case h => repeat' (first | (with_reducible exact O) | (with_reducible apply Mem.drew) | (with_reducible apply Mem.drewN) | (with_reducible apply Mem.ext) | (with_reducible apply Mem.alloc) | (with_reducible apply Mem.setCell) | (simp only [ptb, ptb_upd, foots_cons, List.mem_cons, World.size_alloc, size_ext, World.size_setCell, true_or, or_true, eq_self_iff_true]))
  case' k =>
    intro w5 O'
    (try clear O)
    have O := O'
    clear O'
    (first | simp only [sel, rst, List.cons_append, List.nil_append, World.size_alloc, size_ext, World.size_setCell, size_setMap, World.size_drew, size_drewN, upd, List.set_cons_zero, List.set_cons_succ, if_true, if_false, reduceIte, not_false_eq_true, ne_lt0, ne_lt1, ne_lt2, ne_lt3, ne_lt4, cs] at O | simp only [sel, rst, List.cons_append, List.nil_append, World.size_alloc, size_ext, World.size_setCell, size_setMap, World.size_drew, size_drewN, upd, List.set_cons_zero, List.set_cons_succ, if_true, if_false, reduceIte, not_false_eq_true, ne_lt0, ne_lt1, ne_lt2, ne_lt3, ne_lt4] at O | skip)
    (try clear cs)
    (try clear v1)
    (try clear v2)
    (try clear v3)
  generalize w4.heap.size = wb at O ⊢
  have O2 : Mem w [] w5 [rrA wb none 0 [], rdA pb none 0 []] := Mem.shut (l := rrL wb none 0 []) ((Mem.listNil (e := 5) (size := 1) (cs := byteCells) O).perm (List.Perm.swap _ _ _))
  clear O
  have O := O2
  clear O2
  skip
  have cs := O.facts
  simp only [factsP, cellsP, roomP, foots_cons, foots_nil, foots_append, foot_pt, ptb, ptb_mapA, foot_mapA, factsP_mapA, foot_bun, List.append_nil, List.nil_append, List.cons_append, List.nodup_cons, List.nodup_nil, List.mem_cons, List.not_mem_nil, List.mem_singleton, List.forall_mem_cons, not_or, not_false_eq_true, and_true, true_and, or_false, false_or, forall_eq_or_imp, forall_eq, implies_true, Nat.zero_add, Nat.reduceAdd, and_assoc, ptb_listA, factsP_listA, Nat.mul_one, byteCells, rrL, ptb_rdA, factsP_rdA, ptb_rrA, factsP_rrA, ptb_anyA, factsP_anyA, Bs.val] at cs
  go_wp2_with fail
  clear cs
  go_loopw [6] (fun s6 wr => ∃ (k : Nat) (A1 : Option Addr) (c1 : Nat) (A2 : Option Addr) (c2 : Nat) (held : List UInt8), k ≤ l.length ∧ s6 = .int .i64 k ∧ Mem w [] wr [rrA wb A2 c2 held, rdA pb A1 c1 held] ∧ Hid (held.length ≤ 131072)) (fun s6 _ => l.length - (intOf s6).toNat)
  case atStart => exact ⟨0, none, 0, none, 0, [], by omega, rfl, O, Lib.hid (by simp)⟩
  case round =>
    clear O
    obtain ⟨k, A1, c1, A2, c2, held, hk, rfl, O, HH⟩ := hrel
    by_cases hlt : k < l.length ∧ k < 200
    case neg =>
      have hcase : (k < l.length ∧ ¬ k < 200) ∨ ¬ k < l.length := by omega
      rcases hcase with ⟨h1, h2⟩ | h1
      all_goals
        have cs := O.facts
        simp only [factsP, cellsP, roomP, foots_cons, foots_nil, foots_append, foot_pt, ptb, ptb_mapA, foot_mapA, factsP_mapA, foot_bun, List.append_nil, List.nil_append, List.cons_append, List.nodup_cons, List.nodup_nil, List.mem_cons, List.not_mem_nil, List.mem_singleton, List.forall_mem_cons, not_or, not_false_eq_true, and_true, true_and, or_false, false_or, forall_eq_or_imp, forall_eq, implies_true, Nat.zero_add, Nat.reduceAdd, and_assoc, ptb_listA, factsP_listA, Nat.mul_one, byteCells, rrL, ptb_rdA, factsP_rdA, ptb_rrA, factsP_rrA, ptb_anyA, factsP_anyA, Bs.val] at cs
        go_wp2_with fail
        go_ret
        exact ⟨rfl, O.fr.below rfl⟩
    case pos =>
      obtain ⟨hlt, h200⟩ := hlt
      obtain ⟨b, off, rfl, hbb, hq⟩ := HC.out k _ (List.getElem?_eq_getElem hlt)
      have hoo := HO.out _ (List.getElem_mem hlt)
      generalize l[k] = o at *
      have V := Lib.hid (fun W (h : Fr [] w W) => arg_view hbb hq h)
      obtain ⟨ok, ⟨bA, bc, bl⟩⟩ := o
      simp only [O03.ok] at hoo
      have HOO := Lib.hid hoo
      clear hoo hq
      simp only [O03.cells, Bs.val, cellsQ, Nat.add_zero, Nat.reduceAdd, and_true, Nat.zero_add] at V
      skip
      have cs := O.facts
      simp only [factsP, cellsP, roomP, foots_cons, foots_nil, foots_append, foot_pt, ptb, ptb_mapA, foot_mapA, factsP_mapA, foot_bun, List.append_nil, List.nil_append, List.cons_append, List.nodup_cons, List.nodup_nil, List.mem_cons, List.not_mem_nil, List.mem_singleton, List.forall_mem_cons, not_or, not_false_eq_true, and_true, true_and, or_false, false_or, forall_eq_or_imp, forall_eq, implies_true, Nat.zero_add, Nat.reduceAdd, and_assoc, ptb_listA, factsP_listA, Nat.mul_one, byteCells, rrL, ptb_rdA, factsP_rdA, ptb_rrA, factsP_rrA, ptb_anyA, factsP_anyA, Bs.val] at cs
      have v1 := V.out _ O.fr
      simp only [roomP, and_assoc] at v1
      go_upto_region 10 with fail
      first | apply Mem.atCall | apply Mem.atCode | apply Mem.atList
      case h => repeat' (first | (with_reducible exact O) | (with_reducible apply Mem.drew) | (with_reducible apply Mem.drewN) | (with_reducible apply Mem.ext) | (with_reducible apply Mem.alloc) | (with_reducible apply Mem.setCell) | (simp only [ptb, ptb_upd, foots_cons, List.mem_cons, World.size_alloc, size_ext, World.size_setCell, true_or, or_true, eq_self_iff_true]))
      case' k =>
        intro x1 O'
        (try clear O)
        have O := O'
        clear O'
        (first | simp only [sel, rst, List.cons_append, List.nil_append, World.size_alloc, size_ext, World.size_setCell, size_setMap, World.size_drew, size_drewN, upd, List.set_cons_zero, List.set_cons_succ, if_true, if_false, reduceIte, not_false_eq_true, ne_lt0, ne_lt1, ne_lt2, ne_lt3, ne_lt4, cs] at O | simp only [sel, rst, List.cons_append, List.nil_append, World.size_alloc, size_ext, World.size_setCell, size_setMap, World.size_drew, size_drewN, upd, List.set_cons_zero, List.set_cons_succ, if_true, if_false, reduceIte, not_false_eq_true, ne_lt0, ne_lt1, ne_lt2, ne_lt3, ne_lt4] at O | skip)
        (try clear cs)
        (try clear v1)
        (try clear v2)
        (try clear v3)
      generalize wr.heap.size = ob at O ⊢
      skip
      obtain ⟨kk, hkk⟩ : ∃ kk : Bool, kk = decide (ok = 1 ∨ ok = 3) := ⟨_, rfl⟩
      have HKK := Lib.hid hkk
      clear hkk
      have cs := O.facts
      simp only [factsP, cellsP, roomP, foots_cons, foots_nil, foots_append, foot_pt, ptb, ptb_mapA, foot_mapA, factsP_mapA, foot_bun, List.append_nil, List.nil_append, List.cons_append, List.nodup_cons, List.nodup_nil, List.mem_cons, List.not_mem_nil, List.mem_singleton, List.forall_mem_cons, not_or, not_false_eq_true, and_true, true_and, or_false, false_or, forall_eq_or_imp, forall_eq, implies_true, Nat.zero_add, Nat.reduceAdd, and_assoc, ptb_listA, factsP_listA, Nat.mul_one, byteCells, rrL, ptb_rdA, factsP_rdA, ptb_rrA, factsP_rrA, ptb_anyA, factsP_anyA, Bs.val] at cs
      go_upto_block 2 with fail
      go_cut [98] (fun s98 wc => ∃ (A1 : Option Addr) (c1 : Nat) (A2 : Option Addr) (c2 : Nat) (held : List UInt8), Mem w [] wc [rrA wb A2 c2 held, rdA pb A1 c1 held] ∧ Hid (held.length ≤ 131072))
      case first =>
        have cs := O.facts
        simp only [factsP, cellsP, roomP, foots_cons, foots_nil, foots_append, foot_pt, ptb, ptb_mapA, foot_mapA, factsP_mapA, foot_bun, List.append_nil, List.nil_append, List.cons_append, List.nodup_cons, List.nodup_nil, List.mem_cons, List.not_mem_nil, List.mem_singleton, List.forall_mem_cons, not_or, not_false_eq_true, and_true, true_and, or_false, false_or, forall_eq_or_imp, forall_eq, implies_true, Nat.zero_add, Nat.reduceAdd, and_assoc, ptb_listA, factsP_listA, Nat.mul_one, byteCells, rrL, ptb_rdA, factsP_rdA, ptb_rrA, factsP_rrA, ptb_anyA, factsP_anyA, Bs.val] at cs
        go_upto_if 48 with fail
        go_cut [48] (fun s48 wc => s48 = .bool kk ∧ Mem w [] wc [.pt ob [.int .i64 ok, .slice bA bl.length bc] 47, rrA wb A2 c2 held, rdA pb A1 c1 held])
        case first =>
          have hkk := HKK.out
          have hc3 : (ok = 1 ∧ kk = true) ∨ (ok = 3 ∧ kk = true) ∨ (¬ ok = 1 ∧ ¬ ok = 3 ∧ kk = false) := by
            rw [hkk]
            by_cases h1 : ok = 1
            · exact .inl ⟨h1, by simp [h1]⟩
            · by_cases h3 : ok = 3
              · exact .inr (.inl ⟨h3, by simp [h3]⟩)
              · exact .inr (.inr ⟨h1, h3, by simp [h1, h3]⟩)
          clear hkk
          have HC3 := Lib.hid hc3
          clear hc3
          rcases HC3.out with ⟨rfl, rfl⟩ | ⟨rfl, rfl⟩ | ⟨h1, h3, rfl⟩
          all_goals
            clear HC3
            try (have e1 : (ok == 1) = false := by simp [h1])
            try (have e3 : (ok == 3) = false := by simp [h3])
            have cs := O.facts
            simp only [factsP, cellsP, roomP, foots_cons, foots_nil, foots_append, foot_pt, ptb, ptb_mapA, foot_mapA, factsP_mapA, foot_bun, List.append_nil, List.nil_append, List.cons_append, List.nodup_cons, List.nodup_nil, List.mem_cons, List.not_mem_nil, List.mem_singleton, List.forall_mem_cons, not_or, not_false_eq_true, and_true, true_and, or_false, false_or, forall_eq_or_imp, forall_eq, implies_true, Nat.zero_add, Nat.reduceAdd, and_assoc, ptb_listA, factsP_listA, Nat.mul_one, byteCells, rrL, ptb_rdA, factsP_rdA, ptb_rrA, factsP_rrA, ptb_anyA, factsP_anyA, Bs.val] at cs
            go_wp2_with fail
            go_meet
            exact ⟨rfl, O⟩
        case rest =>
          clear O
          obtain ⟨rfl, O⟩ := hcut
          cases kk
          · have hk3 : ¬ (ok = 1 ∨ ok = 3) := by have := HKK.out; simpa using this.symm
            by_cases h2 : ok = 2
            · subst h2
              clear hk3
              have cs := O.facts
              simp only [factsP, cellsP, roomP, foots_cons, foots_nil, foots_append, foot_pt, ptb, ptb_mapA, foot_mapA, factsP_mapA, foot_bun, List.append_nil, List.nil_append, List.cons_append, List.nodup_cons, List.nodup_nil, List.mem_cons, List.not_mem_nil, List.mem_singleton, List.forall_mem_cons, not_or, not_false_eq_true, and_true, true_and, or_false, false_or, forall_eq_or_imp, forall_eq, implies_true, Nat.zero_add, Nat.reduceAdd, and_assoc, ptb_listA, factsP_listA, Nat.mul_one, byteCells, rrL, ptb_rdA, factsP_rdA, ptb_rrA, factsP_rrA, ptb_anyA, factsP_anyA, Bs.val] at cs
              go_wp2_with fail
              first | apply Mem.atCall | apply Mem.atCode | apply Mem.atList
              case h => repeat' (first | (with_reducible exact O) | (with_reducible apply Mem.drew) | (with_reducible apply Mem.drewN) | (with_reducible apply Mem.ext) | (with_reducible apply Mem.alloc) | (with_reducible apply Mem.setCell) | (simp only [ptb, ptb_upd, foots_cons, List.mem_cons, World.size_alloc, size_ext, World.size_setCell, true_or, or_true, eq_self_iff_true]))
              case' k =>
                intro y1 O'
                (try clear O)
                have O := O'
                clear O'
                (first | simp only [sel, rst, List.cons_append, List.nil_append, World.size_alloc, size_ext, World.size_setCell, size_setMap, World.size_drew, size_drewN, upd, List.set_cons_zero, List.set_cons_succ, if_true, if_false, reduceIte, not_false_eq_true, ne_lt0, ne_lt1, ne_lt2, ne_lt3, ne_lt4, cs] at O | simp only [sel, rst, List.cons_append, List.nil_append, World.size_alloc, size_ext, World.size_setCell, size_setMap, World.size_drew, size_drewN, upd, List.set_cons_zero, List.set_cons_succ, if_true, if_false, reduceIte, not_false_eq_true, ne_lt0, ne_lt1, ne_lt2, ne_lt3, ne_lt4] at O | skip)
                (try clear cs)
                (try clear v1)
                (try clear v2)
                (try clear v3)
              refine (rdA_Next y1 pb A1 c1 held (O.pre [false, false, true]) HH.out).mono ?_
              rintro e y2 ⟨B1, d1, A3, c3, rfl, o⟩
              replace O := O.callp [false, false, true] o
              clear o
              simp only [put, List.cons_append, List.nil_append] at O
              have cs := O.facts
              simp only [factsP, cellsP, roomP, foots_cons, foots_nil, foots_append, foot_pt, ptb, ptb_mapA, foot_mapA, factsP_mapA, foot_bun, List.append_nil, List.nil_append, List.cons_append, List.nodup_cons, List.nodup_nil, List.mem_cons, List.not_mem_nil, List.mem_singleton, List.forall_mem_cons, not_or, not_false_eq_true, and_true, true_and, or_false, false_or, forall_eq_or_imp, forall_eq, implies_true, Nat.zero_add, Nat.reduceAdd, and_assoc, ptb_listA, factsP_listA, Nat.mul_one, byteCells, rrL, ptb_rdA, factsP_rdA, ptb_rrA, factsP_rrA, ptb_anyA, factsP_anyA, Bs.val] at cs
              go_wp2_with fail
              first | apply Mem.atCall | apply Mem.atCode | apply Mem.atList
              case h => repeat' (first | (with_reducible exact O) | (with_reducible apply Mem.drew) | (with_reducible apply Mem.drewN) | (with_reducible apply Mem.ext) | (with_reducible apply Mem.alloc) | (with_reducible apply Mem.setCell) | (simp only [ptb, ptb_upd, foots_cons, List.mem_cons, World.size_alloc, size_ext, World.size_setCell, true_or, or_true, eq_self_iff_true]))
              case' k =>
                intro y3 O'
                (try clear O)
                have O := O'
                clear O'
                (first | simp only [sel, rst, List.cons_append, List.nil_append, World.size_alloc, size_ext, World.size_setCell, size_setMap, World.size_drew, size_drewN, upd, List.set_cons_zero, List.set_cons_succ, if_true, if_false, reduceIte, not_false_eq_true, ne_lt0, ne_lt1, ne_lt2, ne_lt3, ne_lt4, cs] at O | simp only [sel, rst, List.cons_append, List.nil_append, World.size_alloc, size_ext, World.size_setCell, size_setMap, World.size_drew, size_drewN, upd, List.set_cons_zero, List.set_cons_succ, if_true, if_false, reduceIte, not_false_eq_true, ne_lt0, ne_lt1, ne_lt2, ne_lt3, ne_lt4] at O | skip)
                (try clear cs)
                (try clear v1)
                (try clear v2)
                (try clear v3)
              refine (rrA_Next y3 wb A2 c2 held (O.pre [false, true, false, false]) HH.out).mono ?_
              rintro e y4 ⟨B2, d2, A4, c4, rfl, o⟩
              replace O := O.callp [false, true, false, false] o
              clear o
              simp only [put, List.cons_append, List.nil_append] at O
              have nl := nextP_len held
              have hh := HH.out
              generalize nextP held = nx at *
              obtain ⟨nb, ni, ne, nh⟩ := nx
              simp only at O nl
              have NL := Lib.hid (And.intro (Nat.le_trans nl.1 hh) (Nat.le_trans nl.2 hh))
              clear nl hh
              skip
              have cs := O.facts
              simp only [factsP, cellsP, roomP, foots_cons, foots_nil, foots_append, foot_pt, ptb, ptb_mapA, foot_mapA, factsP_mapA, foot_bun, List.append_nil, List.nil_append, List.cons_append, List.nodup_cons, List.nodup_nil, List.mem_cons, List.not_mem_nil, List.mem_singleton, List.forall_mem_cons, not_or, not_false_eq_true, and_true, true_and, or_false, false_or, forall_eq_or_imp, forall_eq, implies_true, Nat.zero_add, Nat.reduceAdd, and_assoc, ptb_listA, factsP_listA, Nat.mul_one, byteCells, rrL, ptb_rdA, factsP_rdA, ptb_rrA, factsP_rrA, ptb_anyA, factsP_anyA, Bs.val] at cs
              go_wp2_with fail
              first | apply Mem.atCall | apply Mem.atCode | apply Mem.atList
              case h => repeat' (first | (with_reducible exact O) | (with_reducible apply Mem.drew) | (with_reducible apply Mem.drewN) | (with_reducible apply Mem.ext) | (with_reducible apply Mem.alloc) | (with_reducible apply Mem.setCell) | (simp only [ptb, ptb_upd, foots_cons, List.mem_cons, World.size_alloc, size_ext, World.size_setCell, true_or, or_true, eq_self_iff_true]))
              case' k =>
                intro y5 O'
                (try clear O)
                have O := O'
                clear O'
                (first | simp only [sel, rst, List.cons_append, List.nil_append, World.size_alloc, size_ext, World.size_setCell, size_setMap, World.size_drew, size_drewN, upd, List.set_cons_zero, List.set_cons_succ, if_true, if_false, reduceIte, not_false_eq_true, ne_lt0, ne_lt1, ne_lt2, ne_lt3, ne_lt4, cs] at O | simp only [sel, rst, List.cons_append, List.nil_append, World.size_alloc, size_ext, World.size_setCell, size_setMap, World.size_drew, size_drewN, upd, List.set_cons_zero, List.set_cons_succ, if_true, if_false, reduceIte, not_false_eq_true, ne_lt0, ne_lt1, ne_lt2, ne_lt3, ne_lt4] at O | skip)
                (try clear cs)
                (try clear v1)
                (try clear v2)
                (try clear v3)
              refine (r_Same _ B1 d1 nb B2 d2 nb (Mem.rd (c := d1) O (by simp)) (Mem.rd (c := d2) O (by simp)) (by have := NL.out; omega)).mono ?_
              rintro e y6 ⟨rfl, o⟩
              replace O := O.callp [] o
              clear o
              simp only [put, List.cons_append, List.nil_append] at O
              rw [dec_self]
              have O2 := (O.sel [false, true, true, true]).front [false, false, true]
              simp only [sel, rst, List.cons_append, List.nil_append] at O2
              clear O
              have O := O2
              clear O2
              obtain ⟨n, hn⟩ : ∃ n, n = nb.length := ⟨_, rfl⟩
              rw [← hn]
              have hn2 : n ≤ 131072 := by have := NL.out; omega
              have HN2 := Lib.hid hn2
              have HN := Lib.hid hn
              clear hn
              have cs := O.facts
              simp only [factsP, cellsP, roomP, foots_cons, foots_nil, foots_append, foot_pt, ptb, ptb_mapA, foot_mapA, factsP_mapA, foot_bun, List.append_nil, List.nil_append, List.cons_append, List.nodup_cons, List.nodup_nil, List.mem_cons, List.not_mem_nil, List.mem_singleton, List.forall_mem_cons, not_or, not_false_eq_true, and_true, true_and, or_false, false_or, forall_eq_or_imp, forall_eq, implies_true, Nat.zero_add, Nat.reduceAdd, and_assoc, ptb_listA, factsP_listA, Nat.mul_one, byteCells, rrL, ptb_rdA, factsP_rdA, ptb_rrA, factsP_rrA, ptb_anyA, factsP_anyA, Bs.val] at cs
              go_wp2_with fail
              clear cs
              go_loopw [21] (fun s21 wr => ∃ (j : Nat) (yl : List UInt8), j ≤ n ∧ s21 = .int .i64 j ∧ Mem w [] wr [bytesA B1 d1 yl, rrA wb A4 c4 nh, rdA pb A3 c3 nh] ∧ Hid (yl.length = n)) (fun s21 _ => n - (intOf s21).toNat)
              case atStart => exact ⟨0, nb, by omega, rfl, O, Lib.hid HN.out.symm⟩
              case round =>
                clear O
                obtain ⟨j, yl, hj, rfl, O, HYN⟩ := hrel
                by_cases hlt : j < n
                · obtain ⟨x0, hx0⟩ : ∃ x, yl[j]? = some x := ⟨_, List.getElem?_eq_getElem (by rw [HYN.out]; omega)⟩
                  obtain ⟨g, rfl, _⟩ := listA_get (cs := byteCells) (fun _ => rfl) (O.hold (bytesA B1 d1 yl) (by simp)) hx0
                  have HX0 := Lib.hid hx0
                  clear hx0
                  skip
                  have cs := O.facts
                  simp only [factsP, cellsP, roomP, foots_cons, foots_nil, foots_append, foot_pt, ptb, ptb_mapA, foot_mapA, factsP_mapA, foot_bun, List.append_nil, List.nil_append, List.cons_append, List.nodup_cons, List.nodup_nil, List.mem_cons, List.not_mem_nil, List.mem_singleton, List.forall_mem_cons, not_or, not_false_eq_true, and_true, true_and, or_false, false_or, forall_eq_or_imp, forall_eq, implies_true, Nat.zero_add, Nat.reduceAdd, and_assoc, ptb_listA, factsP_listA, Nat.mul_one, byteCells, rrL, ptb_rdA, factsP_rdA, ptb_rrA, factsP_rrA, ptb_anyA, factsP_anyA, Bs.val] at cs
                  have v1 := (listA_at (cs := byteCells) (fun _ => rfl) (O.hold (bytesA (some ⟨g, 0, none⟩) d1 yl) (by simp)) HX0.out)
                  try simp only [cellsQ, roomP, and_assoc, and_true, true_and, Nat.add_zero, Nat.zero_add, Nat.reduceAdd, factsP, cellsP, roomP, foots_cons, foots_nil, foots_append, foot_pt, ptb, ptb_mapA, foot_mapA, factsP_mapA, foot_bun, List.append_nil, List.nil_append, List.cons_append, List.nodup_cons, List.nodup_nil, List.mem_cons, List.not_mem_nil, List.mem_singleton, List.forall_mem_cons, not_or, not_false_eq_true, and_true, true_and, or_false, false_or, forall_eq_or_imp, forall_eq, implies_true, Nat.zero_add, Nat.reduceAdd, and_assoc, ptb_listA, factsP_listA, Nat.mul_one, byteCells, rrL, ptb_rdA, factsP_rdA, ptb_rrA, factsP_rrA, ptb_anyA, factsP_anyA, Bs.val] at v1
                  go_upto_region 32 with fail
                  have O2 := Mem.listSet (size := 1) (a' := (98 : UInt8)) (j := 0) (v := .int .u8 98) (cs := byteCells) (fun _ => rfl) O HX0.out (by omega) rfl
                  rw [Nat.mul_one, Nat.add_zero] at O2
                  generalize wr.setCell ⟨g, j, none⟩ (.int .u8 98) = wq at O2 ⊢
                  clear O cs v1
                  have O := O2
                  clear O2
                  skip
                  have cs := O.facts
                  simp only [factsP, cellsP, roomP, foots_cons, foots_nil, foots_append, foot_pt, ptb, ptb_mapA, foot_mapA, factsP_mapA, foot_bun, List.append_nil, List.nil_append, List.cons_append, List.nodup_cons, List.nodup_nil, List.mem_cons, List.not_mem_nil, List.mem_singleton, List.forall_mem_cons, not_or, not_false_eq_true, and_true, true_and, or_false, false_or, forall_eq_or_imp, forall_eq, implies_true, Nat.zero_add, Nat.reduceAdd, and_assoc, ptb_listA, factsP_listA, Nat.mul_one, byteCells, rrL, ptb_rdA, factsP_rdA, ptb_rrA, factsP_rrA, ptb_anyA, factsP_anyA, Bs.val] at cs
                  go_wp2_with fail
                  go_roundw
                  case rel => exact ⟨j + 1, yl.set j 98, by omega, by go_num, O, Lib.hid (by rw [List.length_set]; exact HYN.out)⟩
                  case measure => simp [intOf]; omega
                · obtain rfl : j = n := by omega
                  have e99 : [98, 98].flatMap byteCells = [Value.int .u8 98, .int .u8 98] := rfl
                  skip
                  have cs := O.facts
                  simp only [factsP, cellsP, roomP, foots_cons, foots_nil, foots_append, foot_pt, ptb, ptb_mapA, foot_mapA, factsP_mapA, foot_bun, List.append_nil, List.nil_append, List.cons_append, List.nodup_cons, List.nodup_nil, List.mem_cons, List.not_mem_nil, List.mem_singleton, List.forall_mem_cons, not_or, not_false_eq_true, and_true, true_and, or_false, false_or, forall_eq_or_imp, forall_eq, implies_true, Nat.zero_add, Nat.reduceAdd, and_assoc, ptb_listA, factsP_listA, Nat.mul_one, byteCells, rrL, ptb_rdA, factsP_rdA, ptb_rrA, factsP_rrA, ptb_anyA, factsP_anyA, Bs.val] at cs
                  go_upto_region 35 with ((at_builtin; refine byteTy.wl_app ((O.alloc ([98, 98].flatMap byteCells) 5).front1 [false, true] rfl) rfl rfl HYN.out rfl [98, 98] rfl rfl ((Mem.rd (ptList (cs := byteCells) (l := [98, 98]) (fun _ => rfl) (O.alloc ([98, 98].flatMap byteCells) 5) (by simp [maxLen])) (List.mem_cons_self ..)).src) (by rw [HYN.out]; have := HN2.out; simp; omega) ?_; intro A9 c9 w9' O9))
                  have O2 := O9.sel [false, false, true, true]
                  simp only [sel, rst] at O2
                  clear O O9 cs
                  have O := O2
                  clear O2
                  skip
                  have cs := O.facts
                  simp only [factsP, cellsP, roomP, foots_cons, foots_nil, foots_append, foot_pt, ptb, ptb_mapA, foot_mapA, factsP_mapA, foot_bun, List.append_nil, List.nil_append, List.cons_append, List.nodup_cons, List.nodup_nil, List.mem_cons, List.not_mem_nil, List.mem_singleton, List.forall_mem_cons, not_or, not_false_eq_true, and_true, true_and, or_false, false_or, forall_eq_or_imp, forall_eq, implies_true, Nat.zero_add, Nat.reduceAdd, and_assoc, ptb_listA, factsP_listA, Nat.mul_one, byteCells, rrL, ptb_rdA, factsP_rdA, ptb_rrA, factsP_rrA, ptb_anyA, factsP_anyA, Bs.val] at cs
                  go_wp2_with fail
                  go_meet
                  exact ⟨A3, c3, A4, c4, nh, O, Lib.hid NL.out.2⟩
            · have h1 : ¬ ok = 1 := fun h => hk3 (.inl h)
              have h3 : ¬ ok = 3 := fun h => hk3 (.inr h)
              have e2 : (ok == 2) = false := by simp [h2]
              clear hk3
              have cs := O.facts
              simp only [factsP, cellsP, roomP, foots_cons, foots_nil, foots_append, foot_pt, ptb, ptb_mapA, foot_mapA, factsP_mapA, foot_bun, List.append_nil, List.nil_append, List.cons_append, List.nodup_cons, List.nodup_nil, List.mem_cons, List.not_mem_nil, List.mem_singleton, List.forall_mem_cons, not_or, not_false_eq_true, and_true, true_and, or_false, false_or, forall_eq_or_imp, forall_eq, implies_true, Nat.zero_add, Nat.reduceAdd, and_assoc, ptb_listA, factsP_listA, Nat.mul_one, byteCells, rrL, ptb_rdA, factsP_rdA, ptb_rrA, factsP_rrA, ptb_anyA, factsP_anyA, Bs.val] at cs
              go_wp2_with fail
              go_meet
              exact ⟨A1, c1, A2, c2, held, O.sel [false, true, true], HH⟩
          · have hk3 : ok = 1 ∨ ok = 3 := by have := HKK.out; simpa using this.symm
            have HK3 := Lib.hid hk3
            clear hk3
            have cs := O.facts
            simp only [factsP, cellsP, roomP, foots_cons, foots_nil, foots_append, foot_pt, ptb, ptb_mapA, foot_mapA, factsP_mapA, foot_bun, List.append_nil, List.nil_append, List.cons_append, List.nodup_cons, List.nodup_nil, List.mem_cons, List.not_mem_nil, List.mem_singleton, List.forall_mem_cons, not_or, not_false_eq_true, and_true, true_and, or_false, false_or, forall_eq_or_imp, forall_eq, implies_true, Nat.zero_add, Nat.reduceAdd, and_assoc, ptb_listA, factsP_listA, Nat.mul_one, byteCells, rrL, ptb_rdA, factsP_rdA, ptb_rrA, factsP_rrA, ptb_anyA, factsP_anyA, Bs.val] at cs
            go_upto_if 55 with fail
            go_cut [8] (fun s8 wc => ∃ (X : List Asn) (Ab : Option Addr) (cb : Nat) (b2 : List UInt8), s8 = .slice Ab b2.length cb ∧ Mem w [] wc [anyA X, rrA wb A2 c2 held, rdA pb A1 c1 held] ∧ Hid ((∀ W L, Mem w [] W L → anyA X ∈ L → Rd W Ab b2) ∧ b2.length ≤ 1048576))
            case first =>
              rcases HK3.out with rfl | rfl
              · have cs := O.facts
                simp only [factsP, cellsP, roomP, foots_cons, foots_nil, foots_append, foot_pt, ptb, ptb_mapA, foot_mapA, factsP_mapA, foot_bun, List.append_nil, List.nil_append, List.cons_append, List.nodup_cons, List.nodup_nil, List.mem_cons, List.not_mem_nil, List.mem_singleton, List.forall_mem_cons, not_or, not_false_eq_true, and_true, true_and, or_false, false_or, forall_eq_or_imp, forall_eq, implies_true, Nat.zero_add, Nat.reduceAdd, and_assoc, ptb_listA, factsP_listA, Nat.mul_one, byteCells, rrL, ptb_rdA, factsP_rdA, ptb_rrA, factsP_rrA, ptb_anyA, factsP_anyA, Bs.val] at cs
                go_wp2_with fail
                go_meet
                exact ⟨[], bA, bc, bl, rfl, Mem.shut (l := []) (O.sel [false, true, true]), Lib.hid ⟨fun W L h _ => HOO.out.1.fr h.fr, HOO.out.2.2⟩⟩
              · have cs := O.facts
                simp only [factsP, cellsP, roomP, foots_cons, foots_nil, foots_append, foot_pt, ptb, ptb_mapA, foot_mapA, factsP_mapA, foot_bun, List.append_nil, List.nil_append, List.cons_append, List.nodup_cons, List.nodup_nil, List.mem_cons, List.not_mem_nil, List.mem_singleton, List.forall_mem_cons, not_or, not_false_eq_true, and_true, true_and, or_false, false_or, forall_eq_or_imp, forall_eq, implies_true, Nat.zero_add, Nat.reduceAdd, and_assoc, ptb_listA, factsP_listA, Nat.mul_one, byteCells, rrL, ptb_rdA, factsP_rdA, ptb_rrA, factsP_rrA, ptb_anyA, factsP_anyA, Bs.val] at cs
                go_wp2_with fail
                first | apply Mem.atCall | apply Mem.atCode | apply Mem.atList
                case h => repeat' (first | (with_reducible exact O) | (with_reducible apply Mem.drew) | (with_reducible apply Mem.drewN) | (with_reducible apply Mem.ext) | (with_reducible apply Mem.alloc) | (with_reducible apply Mem.setCell) | (simp only [ptb, ptb_upd, foots_cons, List.mem_cons, World.size_alloc, size_ext, World.size_setCell, true_or, or_true, eq_self_iff_true]))
                case' k =>
                  intro y1 O'
                  (try clear O)
                  have O := O'
                  clear O'
                  (first | simp only [sel, rst, List.cons_append, List.nil_append, World.size_alloc, size_ext, World.size_setCell, size_setMap, World.size_drew, size_drewN, upd, List.set_cons_zero, List.set_cons_succ, if_true, if_false, reduceIte, not_false_eq_true, ne_lt0, ne_lt1, ne_lt2, ne_lt3, ne_lt4, cs] at O | simp only [sel, rst, List.cons_append, List.nil_append, World.size_alloc, size_ext, World.size_setCell, size_setMap, World.size_drew, size_drewN, upd, List.set_cons_zero, List.set_cons_succ, if_true, if_false, reduceIte, not_false_eq_true, ne_lt0, ne_lt1, ne_lt2, ne_lt3, ne_lt4] at O | skip)
                  (try clear cs)
                  (try clear v1)
                  (try clear v2)
                  (try clear v3)
                refine (r_Wrap_any _ bA bc bl (HOO.out.1.fr O.fr)).mono ?_
                rintro e y2 ⟨Aw, cw, rfl, o⟩
                replace O := O.callp [] o
                clear o
                simp only [put, List.cons_append, List.nil_append] at O
                have cs := O.facts
                simp only [factsP, cellsP, roomP, foots_cons, foots_nil, foots_append, foot_pt, ptb, ptb_mapA, foot_mapA, factsP_mapA, foot_bun, List.append_nil, List.nil_append, List.cons_append, List.nodup_cons, List.nodup_nil, List.mem_cons, List.not_mem_nil, List.mem_singleton, List.forall_mem_cons, not_or, not_false_eq_true, and_true, true_and, or_false, false_or, forall_eq_or_imp, forall_eq, implies_true, Nat.zero_add, Nat.reduceAdd, and_assoc, ptb_listA, factsP_listA, Nat.mul_one, byteCells, rrL, ptb_rdA, factsP_rdA, ptb_rrA, factsP_rrA, ptb_anyA, factsP_anyA, Bs.val] at cs
                go_wp2_with fail
                go_meet
                refine ⟨[bytesA Aw cw (wrL bl)], Aw, cw, wrL bl, rfl, Mem.shut (l := [bytesA Aw cw (wrL bl)]) (O.sel [true, false, true, true]), Lib.hid ⟨fun W L h hm => listA_rd (h.hold _ hm _ (List.mem_singleton.2 rfl)), ?_⟩⟩
                unfold wrL
                split
                · simp
                · rw [wrapP_len]; omega
            case rest =>
              clear O V HOO HK3 HKK
              obtain ⟨X, Ab, cb, b2, rfl, O, HR⟩ := hcut
              skip
              have cs := O.facts
              simp only [factsP, cellsP, roomP, foots_cons, foots_nil, foots_append, foot_pt, ptb, ptb_mapA, foot_mapA, factsP_mapA, foot_bun, List.append_nil, List.nil_append, List.cons_append, List.nodup_cons, List.nodup_nil, List.mem_cons, List.not_mem_nil, List.mem_singleton, List.forall_mem_cons, not_or, not_false_eq_true, and_true, true_and, or_false, false_or, forall_eq_or_imp, forall_eq, implies_true, Nat.zero_add, Nat.reduceAdd, and_assoc, ptb_listA, factsP_listA, Nat.mul_one, byteCells, rrL, ptb_rdA, factsP_rdA, ptb_rrA, factsP_rrA, ptb_anyA, factsP_anyA, Bs.val] at cs
              go_wp2_with fail
              first | apply Mem.atCall | apply Mem.atCode | apply Mem.atList
              case h => repeat' (first | (with_reducible exact O) | (with_reducible apply Mem.drew) | (with_reducible apply Mem.drewN) | (with_reducible apply Mem.ext) | (with_reducible apply Mem.alloc) | (with_reducible apply Mem.setCell) | (simp only [ptb, ptb_upd, foots_cons, List.mem_cons, World.size_alloc, size_ext, World.size_setCell, true_or, or_true, eq_self_iff_true]))
              case' k =>
                intro y1 O'
                (try clear O)
                have O := O'
                clear O'
                (first | simp only [sel, rst, List.cons_append, List.nil_append, World.size_alloc, size_ext, World.size_setCell, size_setMap, World.size_drew, size_drewN, upd, List.set_cons_zero, List.set_cons_succ, if_true, if_false, reduceIte, not_false_eq_true, ne_lt0, ne_lt1, ne_lt2, ne_lt3, ne_lt4, cs] at O | simp only [sel, rst, List.cons_append, List.nil_append, World.size_alloc, size_ext, World.size_setCell, size_setMap, World.size_drew, size_drewN, upd, List.set_cons_zero, List.set_cons_succ, if_true, if_false, reduceIte, not_false_eq_true, ne_lt0, ne_lt1, ne_lt2, ne_lt3, ne_lt4] at O | skip)
                (try clear cs)
                (try clear v1)
                (try clear v2)
                (try clear v3)
              refine (law_own _ Ab cb b2 (HR.out.1 _ _ O (by simp)) (by have := HR.out.2; omega)).mono ?_
              rintro e y2 ⟨Au, cu, rfl, hcu, o⟩
              replace O := O.callp [] o
              clear o
              simp only [put, List.cons_append, List.nil_append] at O
              have HCU := Lib.hid hcu
              clear hcu
              have cs := O.facts
              simp only [factsP, cellsP, roomP, foots_cons, foots_nil, foots_append, foot_pt, ptb, ptb_mapA, foot_mapA, factsP_mapA, foot_bun, List.append_nil, List.nil_append, List.cons_append, List.nodup_cons, List.nodup_nil, List.mem_cons, List.not_mem_nil, List.mem_singleton, List.forall_mem_cons, not_or, not_false_eq_true, and_true, true_and, or_false, false_or, forall_eq_or_imp, forall_eq, implies_true, Nat.zero_add, Nat.reduceAdd, and_assoc, ptb_listA, factsP_listA, Nat.mul_one, byteCells, rrL, ptb_rdA, factsP_rdA, ptb_rrA, factsP_rrA, ptb_anyA, factsP_anyA, Bs.val] at cs
              go_wp2_with fail
              first | apply Mem.atCall | apply Mem.atCode | apply Mem.atList
              case h => repeat' (first | (with_reducible exact O) | (with_reducible apply Mem.drew) | (with_reducible apply Mem.drewN) | (with_reducible apply Mem.ext) | (with_reducible apply Mem.alloc) | (with_reducible apply Mem.setCell) | (simp only [ptb, ptb_upd, foots_cons, List.mem_cons, World.size_alloc, size_ext, World.size_setCell, true_or, or_true, eq_self_iff_true]))
              case' k =>
                intro y3 O'
                (try clear O)
                have O := O'
                clear O'
                (first | simp only [sel, rst, List.cons_append, List.nil_append, World.size_alloc, size_ext, World.size_setCell, size_setMap, World.size_drew, size_drewN, upd, List.set_cons_zero, List.set_cons_succ, if_true, if_false, reduceIte, not_false_eq_true, ne_lt0, ne_lt1, ne_lt2, ne_lt3, ne_lt4, cs] at O | simp only [sel, rst, List.cons_append, List.nil_append, World.size_alloc, size_ext, World.size_setCell, size_setMap, World.size_drew, size_drewN, upd, List.set_cons_zero, List.set_cons_succ, if_true, if_false, reduceIte, not_false_eq_true, ne_lt0, ne_lt1, ne_lt2, ne_lt3, ne_lt4] at O | skip)
                (try clear cs)
                (try clear v1)
                (try clear v2)
                (try clear v3)
              have hru : Rd y3 Au b2 := by
                have := (Mem.rd (c := cu) (A := Au) (l := b2 ++ [77]) O (by simp)).take b2.length
                rwa [take_mark] at this
              refine (rdA_Feed_any y3 pb A1 c1 held Au cu b2 (O.pre [false, false, false, true]) hru HH.out (by have := HR.out.2; omega)).mono ?_
              rintro e y4 ⟨A3, c3, rfl, o⟩
              replace O := O.callp [false, false, false, true] o
              clear o
              simp only [put, List.cons_append, List.nil_append] at O
              have cs := O.facts
              simp only [factsP, cellsP, roomP, foots_cons, foots_nil, foots_append, foot_pt, ptb, ptb_mapA, foot_mapA, factsP_mapA, foot_bun, List.append_nil, List.nil_append, List.cons_append, List.nodup_cons, List.nodup_nil, List.mem_cons, List.not_mem_nil, List.mem_singleton, List.forall_mem_cons, not_or, not_false_eq_true, and_true, true_and, or_false, false_or, forall_eq_or_imp, forall_eq, implies_true, Nat.zero_add, Nat.reduceAdd, and_assoc, ptb_listA, factsP_listA, Nat.mul_one, byteCells, rrL, ptb_rdA, factsP_rdA, ptb_rrA, factsP_rrA, ptb_anyA, factsP_anyA, Bs.val] at cs
              go_wp2_with fail
              first | apply Mem.atCall | apply Mem.atCode | apply Mem.atList
              case h => repeat' (first | (with_reducible exact O) | (with_reducible apply Mem.drew) | (with_reducible apply Mem.drewN) | (with_reducible apply Mem.ext) | (with_reducible apply Mem.alloc) | (with_reducible apply Mem.setCell) | (simp only [ptb, ptb_upd, foots_cons, List.mem_cons, World.size_alloc, size_ext, World.size_setCell, true_or, or_true, eq_self_iff_true]))
              case' k =>
                intro y5 O'
                (try clear O)
                have O := O'
                clear O'
                (first | simp only [sel, rst, List.cons_append, List.nil_append, World.size_alloc, size_ext, World.size_setCell, size_setMap, World.size_drew, size_drewN, upd, List.set_cons_zero, List.set_cons_succ, if_true, if_false, reduceIte, not_false_eq_true, ne_lt0, ne_lt1, ne_lt2, ne_lt3, ne_lt4, cs] at O | simp only [sel, rst, List.cons_append, List.nil_append, World.size_alloc, size_ext, World.size_setCell, size_setMap, World.size_drew, size_drewN, upd, List.set_cons_zero, List.set_cons_succ, if_true, if_false, reduceIte, not_false_eq_true, ne_lt0, ne_lt1, ne_lt2, ne_lt3, ne_lt4] at O | skip)
                (try clear cs)
                (try clear v1)
                (try clear v2)
                (try clear v3)
              refine (rrA_Feed_any y5 wb A2 c2 held Ab cb b2 (O.pre [false, false, true, false]) (HR.out.1 _ _ O (by simp)) HH.out (by have := HR.out.2; omega)).mono ?_
              rintro e y6 ⟨A4, c4, rfl, o⟩
              replace O := O.callp [false, false, true, false] o
              clear o
              simp only [put, List.cons_append, List.nil_append] at O
              have cs := O.facts
              simp only [factsP, cellsP, roomP, foots_cons, foots_nil, foots_append, foot_pt, ptb, ptb_mapA, foot_mapA, factsP_mapA, foot_bun, List.append_nil, List.nil_append, List.cons_append, List.nodup_cons, List.nodup_nil, List.mem_cons, List.not_mem_nil, List.mem_singleton, List.forall_mem_cons, not_or, not_false_eq_true, and_true, true_and, or_false, false_or, forall_eq_or_imp, forall_eq, implies_true, Nat.zero_add, Nat.reduceAdd, and_assoc, ptb_listA, factsP_listA, Nat.mul_one, byteCells, rrL, ptb_rdA, factsP_rdA, ptb_rrA, factsP_rrA, ptb_anyA, factsP_anyA, Bs.val] at cs
              go_wp2_with fail
              first | apply Mem.atCall | apply Mem.atCode | apply Mem.atList
              case h => repeat' (first | (with_reducible exact O) | (with_reducible apply Mem.drew) | (with_reducible apply Mem.drewN) | (with_reducible apply Mem.ext) | (with_reducible apply Mem.alloc) | (with_reducible apply Mem.setCell) | (simp only [ptb, ptb_upd, foots_cons, List.mem_cons, World.size_alloc, size_ext, World.size_setCell, true_or, or_true, eq_self_iff_true]))
              case' k =>
                intro y7 O'
                (try clear O)
                have O := O'
                clear O'
                (first | simp only [sel, rst, List.cons_append, List.nil_append, World.size_alloc, size_ext, World.size_setCell, size_setMap, World.size_drew, size_drewN, upd, List.set_cons_zero, List.set_cons_succ, if_true, if_false, reduceIte, not_false_eq_true, ne_lt0, ne_lt1, ne_lt2, ne_lt3, ne_lt4, cs] at O | simp only [sel, rst, List.cons_append, List.nil_append, World.size_alloc, size_ext, World.size_setCell, size_setMap, World.size_drew, size_drewN, upd, List.set_cons_zero, List.set_cons_succ, if_true, if_false, reduceIte, not_false_eq_true, ne_lt0, ne_lt1, ne_lt2, ne_lt3, ne_lt4] at O | skip)
                (try clear cs)
                (try clear v1)
                (try clear v2)
                (try clear v3)
              refine (law_still y7 Au cu b2 Ab cb (Mem.rd (c := cu) O (by simp)) HCU.out (HR.out.1 _ _ O (by simp)) (by have := HR.out.2; omega)).mono ?_
              rintro e y8 ⟨rfl, o⟩
              replace O := O.callp [] o
              clear o
              simp only [put, List.cons_append, List.nil_append] at O
              replace O := O.sel [true, false, true, true]
              simp only [sel] at O
              have hfl := feedL_len held b2 HH.out
              have hfe := feedE_or held b2
              generalize feedL held b2 = held2 at *
              generalize feedE held b2 = fe at *
              have HFL := Lib.hid hfl
              have HFE := Lib.hid hfe
              have hyl : (b2 ++ [77]).length = b2.length + 1 := by simp
              have HYL := Lib.hid hyl
              generalize b2 ++ [77] = yl0 at *
              obtain ⟨n, hn⟩ : ∃ n, n = b2.length := ⟨_, rfl⟩
              rw [← hn]
              have HN := Lib.hid hn
              have hn2 : n ≤ 1048576 := by have := HR.out.2; omega
              clear hfl hfe hyl hn hru
              have cs := O.facts
              simp only [factsP, cellsP, roomP, foots_cons, foots_nil, foots_append, foot_pt, ptb, ptb_mapA, foot_mapA, factsP_mapA, foot_bun, List.append_nil, List.nil_append, List.cons_append, List.nodup_cons, List.nodup_nil, List.mem_cons, List.not_mem_nil, List.mem_singleton, List.forall_mem_cons, not_or, not_false_eq_true, and_true, true_and, or_false, false_or, forall_eq_or_imp, forall_eq, implies_true, Nat.zero_add, Nat.reduceAdd, and_assoc, ptb_listA, factsP_listA, Nat.mul_one, byteCells, rrL, ptb_rdA, factsP_rdA, ptb_rrA, factsP_rrA, ptb_anyA, factsP_anyA, Bs.val] at cs
              go_wp2_with fail
              clear cs
              go_loopw [13] (fun s13 wr => ∃ (j : Nat) (yl : List UInt8), j ≤ n ∧ s13 = .int .i64 j ∧ Mem w [] wr [bytesA Au cu yl, rrA wb A4 c4 held2, rdA pb A3 c3 held2] ∧ Hid (yl.length = n + 1)) (fun s13 _ => n - (intOf s13).toNat)
              case atStart => exact ⟨0, yl0, by omega, rfl, O, Lib.hid (by rw [HYL.out, HN.out])⟩
              case round =>
                clear O
                obtain ⟨j, yl, hj, rfl, O, HYN⟩ := hrel
                by_cases hlt : j < n
                · obtain ⟨x0, hx0⟩ : ∃ x, yl[j]? = some x := ⟨_, List.getElem?_eq_getElem (by rw [HYN.out]; omega)⟩
                  obtain ⟨g, rfl, _⟩ := listA_get (cs := byteCells) (fun _ => rfl) (O.hold (bytesA Au cu yl) (by simp)) hx0
                  have HX0 := Lib.hid hx0
                  clear hx0
                  skip
                  have cs := O.facts
                  simp only [factsP, cellsP, roomP, foots_cons, foots_nil, foots_append, foot_pt, ptb, ptb_mapA, foot_mapA, factsP_mapA, foot_bun, List.append_nil, List.nil_append, List.cons_append, List.nodup_cons, List.nodup_nil, List.mem_cons, List.not_mem_nil, List.mem_singleton, List.forall_mem_cons, not_or, not_false_eq_true, and_true, true_and, or_false, false_or, forall_eq_or_imp, forall_eq, implies_true, Nat.zero_add, Nat.reduceAdd, and_assoc, ptb_listA, factsP_listA, Nat.mul_one, byteCells, rrL, ptb_rdA, factsP_rdA, ptb_rrA, factsP_rrA, ptb_anyA, factsP_anyA, Bs.val] at cs
                  have v1 := (listA_at (cs := byteCells) (fun _ => rfl) (O.hold (bytesA (some ⟨g, 0, none⟩) cu yl) (by simp)) HX0.out)
                  try simp only [cellsQ, roomP, and_assoc, and_true, true_and, Nat.add_zero, Nat.zero_add, Nat.reduceAdd, factsP, cellsP, roomP, foots_cons, foots_nil, foots_append, foot_pt, ptb, ptb_mapA, foot_mapA, factsP_mapA, foot_bun, List.append_nil, List.nil_append, List.cons_append, List.nodup_cons, List.nodup_nil, List.mem_cons, List.not_mem_nil, List.mem_singleton, List.forall_mem_cons, not_or, not_false_eq_true, and_true, true_and, or_false, false_or, forall_eq_or_imp, forall_eq, implies_true, Nat.zero_add, Nat.reduceAdd, and_assoc, ptb_listA, factsP_listA, Nat.mul_one, byteCells, rrL, ptb_rdA, factsP_rdA, ptb_rrA, factsP_rrA, ptb_anyA, factsP_anyA, Bs.val] at v1
                  go_upto_region 22 with fail
                  have O2 := Mem.listSet (size := 1) (a' := (99 : UInt8)) (j := 0) (v := .int .u8 99) (cs := byteCells) (fun _ => rfl) O HX0.out (by omega) rfl
                  rw [Nat.mul_one, Nat.add_zero] at O2
                  generalize wr.setCell ⟨g, j, none⟩ (.int .u8 99) = wq at O2 ⊢
                  clear O cs v1
                  have O := O2
                  clear O2
                  skip
                  have cs := O.facts
                  simp only [factsP, cellsP, roomP, foots_cons, foots_nil, foots_append, foot_pt, ptb, ptb_mapA, foot_mapA, factsP_mapA, foot_bun, List.append_nil, List.nil_append, List.cons_append, List.nodup_cons, List.nodup_nil, List.mem_cons, List.not_mem_nil, List.mem_singleton, List.forall_mem_cons, not_or, not_false_eq_true, and_true, true_and, or_false, false_or, forall_eq_or_imp, forall_eq, implies_true, Nat.zero_add, Nat.reduceAdd, and_assoc, ptb_listA, factsP_listA, Nat.mul_one, byteCells, rrL, ptb_rdA, factsP_rdA, ptb_rrA, factsP_rrA, ptb_anyA, factsP_anyA, Bs.val] at cs
                  go_wp2_with fail
                  go_roundw
                  case rel => exact ⟨j + 1, yl.set j 99, by omega, by go_num, O, Lib.hid (by rw [List.length_set]; exact HYN.out)⟩
                  case measure => simp [intOf]; omega
                · obtain rfl : j = n := by omega
                  rcases HFE.out with rfl | rfl
                  all_goals
                    have cs := O.facts
                    simp only [factsP, cellsP, roomP, foots_cons, foots_nil, foots_append, foot_pt, ptb, ptb_mapA, foot_mapA, factsP_mapA, foot_bun, List.append_nil, List.nil_append, List.cons_append, List.nodup_cons, List.nodup_nil, List.mem_cons, List.not_mem_nil, List.mem_singleton, List.forall_mem_cons, not_or, not_false_eq_true, and_true, true_and, or_false, false_or, forall_eq_or_imp, forall_eq, implies_true, Nat.zero_add, Nat.reduceAdd, and_assoc, ptb_listA, factsP_listA, Nat.mul_one, byteCells, rrL, ptb_rdA, factsP_rdA, ptb_rrA, factsP_rrA, ptb_anyA, factsP_anyA, Bs.val] at cs
                    go_wp2_with fail
                    go_meet
                    exact ⟨A3, c3, A4, c4, held2, O.sel [false, true, true], HFL⟩
      case rest =>
        clear O
        obtain ⟨A1, c1, A2, c2, held, O, HH⟩ := hcut
        skip
        have S := Lib.hid (fun W h => fr_Waiting W pb A1 c1 held (pre_bun' h))
        have cs := O.facts
        simp only [factsP, cellsP, roomP, foots_cons, foots_nil, foots_append, foot_pt, ptb, ptb_mapA, foot_mapA, factsP_mapA, foot_bun, List.append_nil, List.nil_append, List.cons_append, List.nodup_cons, List.nodup_nil, List.mem_cons, List.not_mem_nil, List.mem_singleton, List.forall_mem_cons, not_or, not_false_eq_true, and_true, true_and, or_false, false_or, forall_eq_or_imp, forall_eq, implies_true, Nat.zero_add, Nat.reduceAdd, and_assoc, ptb_listA, factsP_listA, Nat.mul_one, byteCells, rrL, ptb_rdA, factsP_rdA, ptb_rrA, factsP_rrA, ptb_anyA, factsP_anyA, Bs.val] at cs
        have v1 := (rr_facts (rrL wb A2 c2 held) O (by simp [rrA]))
        try simp only [cellsQ, roomP, and_assoc, and_true, true_and, Nat.add_zero, Nat.zero_add, Nat.reduceAdd, factsP, cellsP, roomP, foots_cons, foots_nil, foots_append, foot_pt, ptb, ptb_mapA, foot_mapA, factsP_mapA, foot_bun, List.append_nil, List.nil_append, List.cons_append, List.nodup_cons, List.nodup_nil, List.mem_cons, List.not_mem_nil, List.mem_singleton, List.forall_mem_cons, not_or, not_false_eq_true, and_true, true_and, or_false, false_or, forall_eq_or_imp, forall_eq, implies_true, Nat.zero_add, Nat.reduceAdd, and_assoc, ptb_listA, factsP_listA, Nat.mul_one, byteCells, rrL, ptb_rdA, factsP_rdA, ptb_rrA, factsP_rrA, ptb_anyA, factsP_anyA, Bs.val] at v1
        go_upto_region 37 with fail
        clear cs v1
        apply region_quiet_mem (by kernel_rfl) (by kernel_rfl)
        case O => repeat' (first | (with_reducible exact O) | (with_reducible apply Mem.drew) | (with_reducible apply Mem.drewN) | (with_reducible apply Mem.ext) | (with_reducible apply Mem.alloc) | (with_reducible apply Mem.setCell) | (simp only [ptb, ptb_upd, foots_cons, List.mem_cons, World.size_alloc, size_ext, World.size_setCell, true_or, or_true, eq_self_iff_true]))
        case' h =>
          intro z1 O'
          (try clear O)
          have O := O'
          clear O'
          (first | simp only [sel, rst, List.cons_append, List.nil_append, World.size_alloc, size_ext, World.size_setCell, size_setMap, World.size_drew, size_drewN, upd, List.set_cons_zero, List.set_cons_succ, if_true, if_false, reduceIte, not_false_eq_true, ne_lt0, ne_lt1, ne_lt2, ne_lt3, ne_lt4, cs] at O | simp only [sel, rst, List.cons_append, List.nil_append, World.size_alloc, size_ext, World.size_setCell, size_setMap, World.size_drew, size_drewN, upd, List.set_cons_zero, List.set_cons_succ, if_true, if_false, reduceIte, not_false_eq_true, ne_lt0, ne_lt1, ne_lt2, ne_lt3, ne_lt4] at O | skip)
          (try clear cs)
          (try clear v1)
          (try clear v2)
          (try clear v3)
        have cs := O.facts
        simp only [factsP, cellsP, roomP, foots_cons, foots_nil, foots_append, foot_pt, ptb, ptb_mapA, foot_mapA, factsP_mapA, foot_bun, List.append_nil, List.nil_append, List.cons_append, List.nodup_cons, List.nodup_nil, List.mem_cons, List.not_mem_nil, List.mem_singleton, List.forall_mem_cons, not_or, not_false_eq_true, and_true, true_and, or_false, false_or, forall_eq_or_imp, forall_eq, implies_true, Nat.zero_add, Nat.reduceAdd, and_assoc, ptb_listA, factsP_listA, Nat.mul_one, byteCells, rrL, ptb_rdA, factsP_rdA, ptb_rrA, factsP_rrA, ptb_anyA, factsP_anyA, Bs.val] at cs
        have v1 := (rr_facts (rrL wb A2 c2 held) O (by simp [rrA]))
        try simp only [cellsQ, roomP, and_assoc, and_true, true_and, Nat.add_zero, Nat.zero_add, Nat.reduceAdd, factsP, cellsP, roomP, foots_cons, foots_nil, foots_append, foot_pt, ptb, ptb_mapA, foot_mapA, factsP_mapA, foot_bun, List.append_nil, List.nil_append, List.cons_append, List.nodup_cons, List.nodup_nil, List.mem_cons, List.not_mem_nil, List.mem_singleton, List.forall_mem_cons, not_or, not_false_eq_true, and_true, true_and, or_false, false_or, forall_eq_or_imp, forall_eq, implies_true, Nat.zero_add, Nat.reduceAdd, and_assoc, ptb_listA, factsP_listA, Nat.mul_one, byteCells, rrL, ptb_rdA, factsP_rdA, ptb_rrA, factsP_rrA, ptb_anyA, factsP_anyA, Bs.val] at v1
        repeat (go_big_quiet_step ((first | (go_at_call 20; with_reducible exact qMem (S.out _ ((O.ext).pre [false, true]))))))
        refine wpQuiet_nil ?_
        intro z2 hq
        (try clear cs)
        (try clear v1)
        (try clear v2)
        (try clear v3)
        replace O := O.qext hq
        clear hq
        skip
        have cs := O.facts
        simp only [factsP, cellsP, roomP, foots_cons, foots_nil, foots_append, foot_pt, ptb, ptb_mapA, foot_mapA, factsP_mapA, foot_bun, List.append_nil, List.nil_append, List.cons_append, List.nodup_cons, List.nodup_nil, List.mem_cons, List.not_mem_nil, List.mem_singleton, List.forall_mem_cons, not_or, not_false_eq_true, and_true, true_and, or_false, false_or, forall_eq_or_imp, forall_eq, implies_true, Nat.zero_add, Nat.reduceAdd, and_assoc, ptb_listA, factsP_listA, Nat.mul_one, byteCells, rrL, ptb_rdA, factsP_rdA, ptb_rrA, factsP_rrA, ptb_anyA, factsP_anyA, Bs.val] at cs
        go_wp2_with fail
        go_roundw
        case rel => exact ⟨k + 1, A1, c1, A2, c2, held, by omega, by go_num, O, HH⟩
        case measure => simp [intOf]; omega
set_option maxRecDepth 100000 in
theorem readFrameReads_41 : Try.prog.readableRec 41 = true ∧ 41 < Try.prog.types.size := ⟨by kernel_rfl, of_decide_eq_true (by kernel_rfl)⟩
set_option maxRecDepth 100000 in
theorem ownFrameReads : ownKnob Try.prog.godebug = none := by kernel_rfl
set_option maxRecDepth 100000 in
theorem laidOutFrameReads : laidOutB Try.prog = true := by kernel_rfl
set_option maxRecDepth 100000 in
theorem contractFrameReads (H : Type) (enc : TypeId × Value → H) (W : World) (base : Nat) (args : Array Value) (ds gs : List (DataW H)) (before : List MemPlace)
    (hval : ∀ (j : Nat) t v, Try.f6.params[j]? = some t → args[j]? = some v → Value.okWide Try.prog W .any base t v)
    (hW : DataW.Whole enc Try.prog Try.f6.params.toList Rows.frameReadsSpec.vars false W args.toList ds gs before) (hk : Rows.uptoSmall H (ds ++ gs) = true) :
    Calls Try.prog 6 args W fun e W' => ∃ v, e = .returned v ∧ Rows.frameReadsSpec.post enc Try.prog Try.f6 false true false false W args v W' := by
  have hfin : ∀ W', Below W.heap.size W W' → Rows.frameReadsSpec.post enc Try.prog Try.f6 false true false false W args (.bool true) W' := fun W' hb =>
    post_of_walk (n := 1) (boolT := 4) rfl (fun ds h => by match ds, h with | [a0], _ => exact ⟨rfl, rfl, rfl⟩) rfl rfl Try.underlying4 laidOutFrameReads (fun t ht => by rw [Try.params6] at ht; simp at ht; subst ht; exact readFrameReads_41) hW hb
  have hN : Rows.uptoBulkAll (ds ++ gs) ≤ 1048576 := of_decide_eq_true hk
  obtain ⟨p, q, hA, hV, rfl, hfz, hnd⟩ := hW
  rw [Try.params6] at hA hval
  obtain ⟨v0, vs0, d0, ds0, p0, q0, hargs, rfl, rfl, h0, r0⟩ := trodAll_cons hA
  obtain ⟨rfl, rfl, rfl⟩ := trodAll_nil r0
  obtain rfl : args = #[v0] := by cases args; simp_all
  simp only [List.cons_append, List.nil_append, Rows.uptoBulkAll] at hN
  obtain ⟨A0, len0, cap0, rfl⟩ := okWide_slice Try.underlying41 (hval 0 41 v0 rfl rfl)
  obtain ⟨f0, g0⟩ := h0
  have ty0 := typed_of_trod (N := 1048576) f0 _ _ _ g0 (by simp only; omega)
  obtain ⟨l, hl, hok⟩ := read_list (cs := O03.cells) (ok := fun o : O03 => o.ok W) Try.underlying41 cells_o03 (by omega) (fun f' l' h => read_o03 h) (Nat.le_refl _) ty0
  exact (walkReads _ l W hl hok).mono fun e W' ⟨he, hy⟩ => ⟨_, he, hfin W' hy⟩

set_option maxRecDepth 100000 in
theorem liftedFrameReads (os : Os) (started : os.Started) (H : Type) (enc : TypeId × Value → H) (F : Stop.Interp) :
    ReturnsInHanded {} Try.checked os 6 .any ((Rows.OpenSpec.upto Rows.frameReadsSpec).pre6 enc Try.prog Try.f6 Rows.frameReadsUptoRow.domain false) (((Rows.OpenSpec.upto Rows.frameReadsSpec).at F).post enc Try.prog Try.f6 false true false false) := by
  refine returnsInHanded_of_cond (C := Try.checked) (s := Rows.OpenSpec.upto Rows.frameReadsSpec) (k := Rows.uptoSmall) rfl ownFrameReads started (by kernel_rfl) Try.func6
    (OpenSpec.witness (enc := enc) (C := Try.checked) (s := Rows.OpenSpec.upto Rows.frameReadsSpec) (k := Rows.uptoSmall) rfl false
      ⟨#[], #[.slice none 0 0], []⟩ 8 (by kernel_rfl) (by kernel_rfl) (by kernel_rfl)
      (x := ([.nil], [], [])) (by kernel_rfl) rfl (by kernel_rfl)) ?_
  intro W base args ds gs before hval hW _ hk _
  exact contractFrameReads H enc W base args ds gs before hval hW hk

theorem FrameReads_holds : Rows.FrameReadsUptoSaid :=
  OpenClaim.holds_of_cond 6 Try.f6 rfl rfl rfl rfl rfl rfl rfl ⟨rfl, rfl, rfl, rfl, rfl⟩ rfl rfl rfl rfl rfl (by kernel_rfl) Try.func6 (by kernel_rfl)
    (of_decide_eq_true (by kernel_rfl)) (by unfold Func.isWrapper; first | (rw [if_pos (by decide +kernel)]; kernel_rfl) | (rw [if_neg (by decide +kernel)]; exact ⟨rfl, rfl⟩))
    (fun os started H enc _ F => liftedFrameReads os started H enc F)
end Go.Proofs.Ytomcahmgmmbmmaa
