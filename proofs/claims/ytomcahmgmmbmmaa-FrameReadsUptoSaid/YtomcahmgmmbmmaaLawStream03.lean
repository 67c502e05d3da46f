/- PROVED: however a stream of frames is cut, a reader tells its bodies, in order (FrameStream): for arguments of bulk at most 1048576, the law returns true, and each argument reads behind the call as it read before. -/
import Derived.Test.YtomcahmgmmbmmaaStreamPlain03
import Derived.Test.YtomcahmgmmbmmaaOwn03
import Derived.Test.YtomcahmgmmbmmaaLawBack03
set_option linter.unusedVariables false
set_option linter.unusedSimpArgs false
namespace Go.Proofs.Ytomcahmgmmbmmaa
open Go.RowKit Go.WideShapes Go.ChangeShapes Go.ChangeAt Go.Tk
def rdA (pb : Nat) (A : Option Addr) (c : Nat) (l : List UInt8) : Asn := bun (rdL pb A c l)
theorem factsP_rdA {w : World} {L : List Asn} {pb c : Nat} {A : Option Addr} {l : List UInt8} : factsP w (rdA pb A c l :: L) = factsP w L := rfl
theorem ptb_rdA {L : List Asn} {pb c : Nat} {A : Option Addr} {l : List UInt8} : ptb (rdA pb A c l :: L) = ptb L := rfl
theorem pre_bun' {w : World} {l : List Asn} (h : Pre w [bun l]) : Pre w l := by
  have := Mem.open_ h
  simpa [Pre, foots, foot_bun] using this
theorem mem_bun' {w w' : World} {l l' : List Asn} (h : Mem w (foots l) w' l') : Mem w (foots [bun l]) w' [bun l'] := by
  have h1 : Mem w (foots [bun l]) w' l' := by simpa [foots, foot_bun] using h
  exact Mem.shut (L := []) (by simpa using h1)
section
variable (w : World)
theorem rdA_New : Calls Try.prog 21 #[] w (fun e w' => ∃ pb, e = .returned (.pointer (some ⟨pb, 0, none⟩)) ∧ Mem w [] w' [rdA pb none 0 []]) :=
  (fr_New w).mono fun _ _ ⟨he, hm⟩ => ⟨_, he, Mem.shut (L := []) (by simpa using hm)⟩
theorem rdA_Feed (pb : Nat) (A : Option Addr) (c : Nat) (l : List UInt8) (B : Option Addr) (d : Nat) (m : List UInt8) (h : Pre w [rdA pb A c l]) (hr : Rd w B m) (hl : l.length + m.length ≤ 131072) :
    Calls Try.prog 18 #[.pointer (some ⟨pb, 0, none⟩), .slice B m.length d] w (fun e w' => e = .returned (.int .i64 0) ∧ ∃ A' c', Mem w (foots [rdA pb A c l]) w' [rdA pb A' c' (l ++ m)]) :=
  (fr_Feed w pb A c l B d m (pre_bun' h) hr hl).mono fun _ _ ⟨he, A', c', hm⟩ => ⟨he, A', c', mem_bun' hm⟩
theorem rdA_Next (pb : Nat) (A : Option Addr) (c : Nat) (l : List UInt8) (h : Pre w [rdA pb A c l]) (hl : l.length ≤ 131072) :
    Calls Try.prog 19 #[.pointer (some ⟨pb, 0, none⟩)] w (fun e w' => ∃ B d A' c', e = .returned (.tuple #[.slice B (nextP l).1.length d, .bool (nextP l).2.1, .int .i64 (nextP l).2.2.1]) ∧ Mem w (foots [rdA pb A c l]) w' [rdA pb A' c' (nextP l).2.2.2, bytesA B d (nextP l).1]) :=
  (fr_Next w pb A c l (pre_bun' h) hl).mono fun _ W' ⟨B, d, A', c', he, hm⟩ => ⟨B, d, A', c', he, by
    have h1 : Mem w (foots [rdA pb A c l]) W' (bytesA B d (nextP l).1 :: rdL pb A' c' (nextP l).2.2.2) := by simpa [rdA, foots, foot_bun] using hm
    have h2 := h1.perm (L' := rdL pb A' c' (nextP l).2.2.2 ++ [bytesA B d (nextP l).1]) (List.perm_append_singleton _ _).symm
    exact Mem.shut h2⟩
theorem rdA_Waiting (pb : Nat) (A : Option Addr) (c : Nat) (l : List UInt8) (h : Pre w [rdA pb A c l]) :
    Calls Try.prog 20 #[.pointer (some ⟨pb, 0, none⟩)] w (fun e w' => e = .returned (.int .i64 l.length) ∧ Mem w [] w' []) := fr_Waiting w pb A c l (pre_bun' h)
end
def bsCells (b : Bs) : List Value := [b.val]
def cutCells (i : Int) : List Value := [.int .i64 i]
def frames (l : List Bs) (n : Nat) : List (List UInt8) := (l.take n).map (·.l)
theorem frames_snoc (l : List Bs) (n : Nat) (b : Bs) (h : l[n]? = some b) : frames l (n + 1) = frames l n ++ [b.l] := by
  obtain ⟨hlt, rfl⟩ := List.getElem?_eq_some_iff.1 h
  unfold frames
  rw [List.take_succ_eq_append_getElem hlt, List.map_append]
  rfl
theorem streamP_snoc (bs : List (List UInt8)) (b : List UInt8) : streamP (bs ++ [b]) = streamP bs ++ wrapP b := by simp [streamP]
set_option maxRecDepth 100000 in
set_option maxHeartbeats 16000000 in
theorem walkStream (sv cv : Value) (l : List Bs) (cu : List Int) (w : World) (hs : ArgList w 1 bsCells sv l) (hok : ∀ b ∈ l, Rd w b.A b.l ∧ b.l.length ≤ b.c ∧ b.l.length ≤ 1048576) (hcu : ArgList w 1 cutCells cv cu) (hcb : ∀ x ∈ cu, -9223372036854775808 ≤ x ∧ x ≤ 9223372036854775807) :
    Calls Try.prog 7 #[sv, cv] w (fun e w' => e = .returned (.bool true) ∧ Below w.heap.size w w') := by
  obtain ⟨hl, A, cp, rfl, hcs⟩ := hs
  obtain ⟨hl2, A2, cp2, rfl, hcs2⟩ := hcu
  have HC := Lib.hid hcs
  have HC2 := Lib.hid hcs2
  have HO := Lib.hid hok
  have HO2 := Lib.hid hcb
  clear hcs hcs2 hok hcb
  have O : Mem w [] w [] := Mem.begin
  go_enter Try.func7, Try.ntmps7
  have cs := O.facts
  simp only [factsP, cellsP, roomP, foots_cons, foots_nil, foots_append, foot_pt, ptb, ptb_mapA, foot_mapA, factsP_mapA, foot_bun, List.append_nil, List.nil_append, List.cons_append, List.nodup_cons, List.nodup_nil, List.mem_cons, List.not_mem_nil, List.mem_singleton, List.forall_mem_cons, not_or, not_false_eq_true, and_true, true_and, or_false, false_or, forall_eq_or_imp, forall_eq, implies_true, Nat.zero_add, Nat.reduceAdd, and_assoc, ptb_listA, factsP_listA, Nat.mul_one, byteCells, ptb_rdA, factsP_rdA, Bs.val] at cs
  go_wp2_with fail
  first | apply Mem.atCall | apply Mem.atCode | apply Mem.atList
  case h => repeat' (first | (with_reducible exact O) | (with_reducible apply Mem.drew) | (with_reducible apply Mem.drewN) | (with_reducible apply Mem.ext) | (with_reducible apply Mem.alloc) | (with_reducible apply Mem.setCell) | (simp only [ptb, ptb_upd, foots_cons, List.mem_cons, World.size_alloc, size_ext, World.size_setCell, true_or, or_true, eq_self_iff_true]))
  case' k =>
    intro w1 O'
    (try clear O)
    have O := O'
    clear O'
    (first | simp only [sel, rst, List.cons_append, List.nil_append, World.size_alloc, size_ext, World.size_setCell, size_setMap, World.size_drew, size_drewN, upd, List.set_cons_zero, List.set_cons_succ, if_true, if_false, reduceIte, not_false_eq_true, ne_lt0, ne_lt1, ne_lt2, ne_lt3, ne_lt4, cs] at O | simp only [sel, rst, List.cons_append, List.nil_append, World.size_alloc, size_ext, World.size_setCell, size_setMap, World.size_drew, size_drewN, upd, List.set_cons_zero, List.set_cons_succ, if_true, if_false, reduceIte, not_false_eq_true, ne_lt0, ne_lt1, ne_lt2, ne_lt3, ne_lt4] at O | skip)
    (try clear cs)
    (try clear v1)
    (try clear v2)
    (try clear v3)
  refine (law_awake _).mono ?_
  rintro e w2 ⟨rfl, o⟩
  replace O := O.callp [] o
  clear o
  simp only [put, List.cons_append, List.nil_append] at O
  have cs := O.facts
  simp only [factsP, cellsP, roomP, foots_cons, foots_nil, foots_append, foot_pt, ptb, ptb_mapA, foot_mapA, factsP_mapA, foot_bun, List.append_nil, List.nil_append, List.cons_append, List.nodup_cons, List.nodup_nil, List.mem_cons, List.not_mem_nil, List.mem_singleton, List.forall_mem_cons, not_or, not_false_eq_true, and_true, true_and, or_false, false_or, forall_eq_or_imp, forall_eq, implies_true, Nat.zero_add, Nat.reduceAdd, and_assoc, ptb_listA, factsP_listA, Nat.mul_one, byteCells, ptb_rdA, factsP_rdA, Bs.val] at cs
  go_wp2_with fail
  first | apply Mem.atCall | apply Mem.atCode | apply Mem.atList
  case h => repeat' (first | (with_reducible exact O) | (with_reducible apply Mem.drew) | (with_reducible apply Mem.drewN) | (with_reducible apply Mem.ext) | (with_reducible apply Mem.alloc) | (with_reducible apply Mem.setCell) | (simp only [ptb, ptb_upd, foots_cons, List.mem_cons, World.size_alloc, size_ext, World.size_setCell, true_or, or_true, eq_self_iff_true]))
  case' k =>
    intro w3 O'
    (try clear O)
    have O := O'
    clear O'
    (first | simp only [sel, rst, List.cons_append, List.nil_append, World.size_alloc, size_ext, World.size_setCell, size_setMap, World.size_drew, size_drewN, upd, List.set_cons_zero, List.set_cons_succ, if_true, if_false, reduceIte, not_false_eq_true, ne_lt0, ne_lt1, ne_lt2, ne_lt3, ne_lt4, cs] at O | simp only [sel, rst, List.cons_append, List.nil_append, World.size_alloc, size_ext, World.size_setCell, size_setMap, World.size_drew, size_drewN, upd, List.set_cons_zero, List.set_cons_succ, if_true, if_false, reduceIte, not_false_eq_true, ne_lt0, ne_lt1, ne_lt2, ne_lt3, ne_lt4] at O | skip)
    (try clear cs)
    (try clear v1)
    (try clear v2)
    (try clear v3)
  refine (rdA_New _).mono ?_
  rintro e w4 ⟨pb, rfl, o⟩
  replace O := O.callp [] o
  clear o
  simp only [put, List.cons_append, List.nil_append] at O
  have cs := O.facts
  simp only [factsP, cellsP, roomP, foots_cons, foots_nil, foots_append, foot_pt, ptb, ptb_mapA, foot_mapA, factsP_mapA, foot_bun, List.append_nil, List.nil_append, List.cons_append, List.nodup_cons, List.nodup_nil, List.mem_cons, List.not_mem_nil, List.mem_singleton, List.forall_mem_cons, not_or, not_false_eq_true, and_true, true_and, or_false, false_or, forall_eq_or_imp, forall_eq, implies_true, Nat.zero_add, Nat.reduceAdd, and_assoc, ptb_listA, factsP_listA, Nat.mul_one, byteCells, ptb_rdA, factsP_rdA, Bs.val] at cs
  go_upto_block 0 with fail
  go_cut [7, 8, 9] (fun s7 s8 s9 wc => ∃ (n : Nat) (Aa : Option Addr) (ca : Nat), n ≤ l.length ∧ s8 = .int .i64 n ∧ s7 = .slice Aa (streamP (frames l n)).length ca ∧ Mem w [] wc [bytesA Aa ca (streamP (frames l n)), rdA pb none 0 []] ∧ Hid ((streamP (frames l n)).length ≤ 131072 ∧ ∀ b ∈ frames l n, b.length ≤ 65536))
  case first =>
    have cs := O.facts
    simp only [factsP, cellsP, roomP, foots_cons, foots_nil, foots_append, foot_pt, ptb, ptb_mapA, foot_mapA, factsP_mapA, foot_bun, List.append_nil, List.nil_append, List.cons_append, List.nodup_cons, List.nodup_nil, List.mem_cons, List.not_mem_nil, List.mem_singleton, List.forall_mem_cons, not_or, not_false_eq_true, and_true, true_and, or_false, false_or, forall_eq_or_imp, forall_eq, implies_true, Nat.zero_add, Nat.reduceAdd, and_assoc, ptb_listA, factsP_listA, Nat.mul_one, byteCells, ptb_rdA, factsP_rdA, Bs.val] at cs
    go_wp2_with fail
    go_loopw [7, 8, 9] (fun s7 s8 s9 wr => ∃ (n : Nat) (Aa : Option Addr) (ca : Nat), n ≤ l.length ∧ n ≤ 200 ∧ s9 = .int .i64 n ∧ s8 = .int .i64 n ∧ s7 = .slice Aa (streamP (frames l n)).length ca ∧ Mem w [] wr [bytesA Aa ca (streamP (frames l n)), rdA pb none 0 []] ∧ Hid ((streamP (frames l n)).length ≤ 131072 ∧ ∀ b ∈ frames l n, b.length ≤ 65536)) (fun _ _ s9 _ => l.length - (intOf s9).toNat)
    case atStart => exact ⟨0, none, 0, by omega, by omega, rfl, rfl, rfl, O.listNil, Lib.hid ⟨by simp [frames, streamP], by simp [frames]⟩⟩
    case round =>
      clear O
      obtain ⟨n, Aa, ca, hn, hn2, rfl, rfl, rfl, O, HB⟩ := hrel
      by_cases hlt : n < l.length ∧ n < 200
      case neg =>
        have hcase : (n < l.length ∧ ¬ n < 200) ∨ ¬ n < l.length := by omega
        rcases hcase with ⟨h1, h2⟩ | h1
        all_goals
          have cs := O.facts
          simp only [factsP, cellsP, roomP, foots_cons, foots_nil, foots_append, foot_pt, ptb, ptb_mapA, foot_mapA, factsP_mapA, foot_bun, List.append_nil, List.nil_append, List.cons_append, List.nodup_cons, List.nodup_nil, List.mem_cons, List.not_mem_nil, List.mem_singleton, List.forall_mem_cons, not_or, not_false_eq_true, and_true, true_and, or_false, false_or, forall_eq_or_imp, forall_eq, implies_true, Nat.zero_add, Nat.reduceAdd, and_assoc, ptb_listA, factsP_listA, Nat.mul_one, byteCells, ptb_rdA, factsP_rdA, Bs.val] at cs
          go_wp2_with fail
          go_meet
          exact ⟨n, Aa, ca, hn, rfl, rfl, O, HB⟩
      case pos =>
        obtain ⟨hlt, h200⟩ := hlt
        obtain ⟨b, off, rfl, hbb, hq⟩ := HC.out n _ (List.getElem?_eq_getElem hlt)
        have hoo := HO.out _ (List.getElem_mem hlt)
        have hsn := frames_snoc l n _ (List.getElem?_eq_getElem hlt)
        generalize l[n] = o at *
        have V := Lib.hid (fun W (h : Fr [] w W) => arg_view hbb hq h)
        obtain ⟨bA, bc, bl⟩ := o
        simp only at hoo hsn
        have HOO := Lib.hid hoo
        have HSN := Lib.hid hsn
        clear hoo hq hsn
        simp only [bsCells, Bs.val, cellsQ, Nat.add_zero, Nat.mul_one, and_true] at V
        skip
        have cs := O.facts
        simp only [factsP, cellsP, roomP, foots_cons, foots_nil, foots_append, foot_pt, ptb, ptb_mapA, foot_mapA, factsP_mapA, foot_bun, List.append_nil, List.nil_append, List.cons_append, List.nodup_cons, List.nodup_nil, List.mem_cons, List.not_mem_nil, List.mem_singleton, List.forall_mem_cons, not_or, not_false_eq_true, and_true, true_and, or_false, false_or, forall_eq_or_imp, forall_eq, implies_true, Nat.zero_add, Nat.reduceAdd, and_assoc, ptb_listA, factsP_listA, Nat.mul_one, byteCells, ptb_rdA, factsP_rdA, Bs.val] at cs
        have v1 := V.out _ O.fr
        simp only [roomP, and_assoc] at v1
        go_wp2_with fail
        first | apply Mem.atCall | apply Mem.atCode | apply Mem.atList
        case h => repeat' (first | (with_reducible exact O) | (with_reducible apply Mem.drew) | (with_reducible apply Mem.drewN) | (with_reducible apply Mem.ext) | (with_reducible apply Mem.alloc) | (with_reducible apply Mem.setCell) | (simp only [ptb, ptb_upd, foots_cons, List.mem_cons, World.size_alloc, size_ext, World.size_setCell, true_or, or_true, eq_self_iff_true]))
        case' k =>
          intro x1 O'
          (try clear O)
          have O := O'
          clear O'
          (first | simp only [sel, rst, List.cons_append, List.nil_append, World.size_alloc, size_ext, World.size_setCell, size_setMap, World.size_drew, size_drewN, upd, List.set_cons_zero, List.set_cons_succ, if_true, if_false, reduceIte, not_false_eq_true, ne_lt0, ne_lt1, ne_lt2, ne_lt3, ne_lt4, cs] at O | simp only [sel, rst, List.cons_append, List.nil_append, World.size_alloc, size_ext, World.size_setCell, size_setMap, World.size_drew, size_drewN, upd, List.set_cons_zero, List.set_cons_succ, if_true, if_false, reduceIte, not_false_eq_true, ne_lt0, ne_lt1, ne_lt2, ne_lt3, ne_lt4] at O | skip)
          (try clear cs)
          (try clear v1)
          (try clear v2)
          (try clear v3)
        refine (fr_Wrap_any _ bA bc bl (HOO.out.1.fr O.fr)).mono ?_
        rintro e x2 ⟨Aw, cw, rfl, o⟩
        replace O := O.callp [] o
        clear o
        simp only [put, List.cons_append, List.nil_append] at O
        skip
        by_cases hbig : 65536 < bl.length
        · have e1 : wrE bl = 31 := by unfold wrE; rw [if_pos hbig]
          rw [e1]
          clear hbig e1
          have cs := O.facts
          simp only [factsP, cellsP, roomP, foots_cons, foots_nil, foots_append, foot_pt, ptb, ptb_mapA, foot_mapA, factsP_mapA, foot_bun, List.append_nil, List.nil_append, List.cons_append, List.nodup_cons, List.nodup_nil, List.mem_cons, List.not_mem_nil, List.mem_singleton, List.forall_mem_cons, not_or, not_false_eq_true, and_true, true_and, or_false, false_or, forall_eq_or_imp, forall_eq, implies_true, Nat.zero_add, Nat.reduceAdd, and_assoc, ptb_listA, factsP_listA, Nat.mul_one, byteCells, ptb_rdA, factsP_rdA, Bs.val] at cs
          go_wp2_with fail
          go_meet
          refine ⟨n, Aa, ca, hn, rfl, rfl, ?_, HB⟩
          apply Mem.to [false, true, true]
          · repeat' (first | (with_reducible exact O) | (with_reducible apply Mem.drew) | (with_reducible apply Mem.drewN) | (with_reducible apply Mem.ext) | (with_reducible apply Mem.alloc) | (with_reducible apply Mem.setCell) | (simp only [ptb, ptb_upd, foots_cons, List.mem_cons, World.size_alloc, size_ext, World.size_setCell, true_or, or_true, eq_self_iff_true]))
          · first | with_reducible rfl | (simp only [sel, rst, List.cons_append, List.nil_append, World.size_alloc, size_ext, World.size_setCell, size_setMap, World.size_drew, size_drewN, upd, List.set_cons_zero, List.set_cons_succ, if_true, if_false, reduceIte, not_false_eq_true, ne_lt0, ne_lt1, ne_lt2, ne_lt3, ne_lt4, cs]; done) | (simp only [sel, rst, List.cons_append, List.nil_append, World.size_alloc, size_ext, World.size_setCell, size_setMap, World.size_drew, size_drewN, upd, List.set_cons_zero, List.set_cons_succ, if_true, if_false, reduceIte, not_false_eq_true, ne_lt0, ne_lt1, ne_lt2, ne_lt3, ne_lt4]; done) | (simp only [sel, rst, List.cons_append, List.nil_append, World.size_alloc, size_ext, World.size_setCell, size_setMap, World.size_drew, size_drewN, upd, List.set_cons_zero, List.set_cons_succ, if_true, if_false, reduceIte, not_false_eq_true, ne_lt0, ne_lt1, ne_lt2, ne_lt3, ne_lt4, cs]; rfl) | (simp only [sel, rst, List.cons_append, List.nil_append, World.size_alloc, size_ext, World.size_setCell, size_setMap, World.size_drew, size_drewN, upd, List.set_cons_zero, List.set_cons_succ, if_true, if_false, reduceIte, not_false_eq_true, ne_lt0, ne_lt1, ne_lt2, ne_lt3, ne_lt4]; rfl)
        · have e1 : wrE bl = 0 := by unfold wrE; rw [if_neg hbig]
          have e2 : wrL bl = wrapP bl := by unfold wrL; rw [if_neg hbig]
          rw [e1]
          rw [e2] at O ⊢
          have HBIG := Lib.hid hbig
          clear e1 e2 hbig
          obtain ⟨T, hT⟩ : ∃ T, T = streamP (frames l n) := ⟨_, rfl⟩
          rw [← hT] at O HB ⊢
          have htl : T.length ≤ 131072 := HB.out.1
          have HWL := Lib.hid (wrapP_len bl)
          have hwl : (wrapP bl).length ≤ 65546 := by have := HWL.out; have := HBIG.out; omega
          have HT := Lib.hid hT
          clear hT
          generalize hP : wrapP bl = P at *
          have HP := Lib.hid hP
          clear hP
          by_cases htot : (131072 : Int) < (T.length : Int) + P.length
          · have cs := O.facts
            simp only [factsP, cellsP, roomP, foots_cons, foots_nil, foots_append, foot_pt, ptb, ptb_mapA, foot_mapA, factsP_mapA, foot_bun, List.append_nil, List.nil_append, List.cons_append, List.nodup_cons, List.nodup_nil, List.mem_cons, List.not_mem_nil, List.mem_singleton, List.forall_mem_cons, not_or, not_false_eq_true, and_true, true_and, or_false, false_or, forall_eq_or_imp, forall_eq, implies_true, Nat.zero_add, Nat.reduceAdd, and_assoc, ptb_listA, factsP_listA, Nat.mul_one, byteCells, ptb_rdA, factsP_rdA, Bs.val] at cs
            go_wp2_with fail
            go_meet
            refine ⟨n, Aa, ca, hn, rfl, by rw [HT.out], ?_, by rw [← HT.out]; exact HB⟩
            rw [← HT.out]
            apply Mem.to [false, true, true]
            · repeat' (first | (with_reducible exact O) | (with_reducible apply Mem.drew) | (with_reducible apply Mem.drewN) | (with_reducible apply Mem.ext) | (with_reducible apply Mem.alloc) | (with_reducible apply Mem.setCell) | (simp only [ptb, ptb_upd, foots_cons, List.mem_cons, World.size_alloc, size_ext, World.size_setCell, true_or, or_true, eq_self_iff_true]))
            · first | with_reducible rfl | (simp only [sel, rst, List.cons_append, List.nil_append, World.size_alloc, size_ext, World.size_setCell, size_setMap, World.size_drew, size_drewN, upd, List.set_cons_zero, List.set_cons_succ, if_true, if_false, reduceIte, not_false_eq_true, ne_lt0, ne_lt1, ne_lt2, ne_lt3, ne_lt4, cs]; done) | (simp only [sel, rst, List.cons_append, List.nil_append, World.size_alloc, size_ext, World.size_setCell, size_setMap, World.size_drew, size_drewN, upd, List.set_cons_zero, List.set_cons_succ, if_true, if_false, reduceIte, not_false_eq_true, ne_lt0, ne_lt1, ne_lt2, ne_lt3, ne_lt4]; done) | (simp only [sel, rst, List.cons_append, List.nil_append, World.size_alloc, size_ext, World.size_setCell, size_setMap, World.size_drew, size_drewN, upd, List.set_cons_zero, List.set_cons_succ, if_true, if_false, reduceIte, not_false_eq_true, ne_lt0, ne_lt1, ne_lt2, ne_lt3, ne_lt4, cs]; rfl) | (simp only [sel, rst, List.cons_append, List.nil_append, World.size_alloc, size_ext, World.size_setCell, size_setMap, World.size_drew, size_drewN, upd, List.set_cons_zero, List.set_cons_succ, if_true, if_false, reduceIte, not_false_eq_true, ne_lt0, ne_lt1, ne_lt2, ne_lt3, ne_lt4]; rfl)
          · have cs := O.facts
            simp only [factsP, cellsP, roomP, foots_cons, foots_nil, foots_append, foot_pt, ptb, ptb_mapA, foot_mapA, factsP_mapA, foot_bun, List.append_nil, List.nil_append, List.cons_append, List.nodup_cons, List.nodup_nil, List.mem_cons, List.not_mem_nil, List.mem_singleton, List.forall_mem_cons, not_or, not_false_eq_true, and_true, true_and, or_false, false_or, forall_eq_or_imp, forall_eq, implies_true, Nat.zero_add, Nat.reduceAdd, and_assoc, ptb_listA, factsP_listA, Nat.mul_one, byteCells, ptb_rdA, factsP_rdA, Bs.val] at cs
            go_wp2_with ((at_builtin; refine byteTy.wl_app (O.front1 [false, true] rfl) rfl rfl rfl rfl P rfl rfl ((Mem.rd (c := cw) O (by simp)).src) (by omega) ?_; intro A1 c1 w4' O4))
            go_roundw
            case rel =>
              have e3 : T ++ P = streamP (frames l (n + 1)) := by rw [HSN.out, streamP_snoc, HT.out, HP.out]
              refine ⟨n + 1, A1, c1, by omega, by omega, by go_num, by go_num, by rw [← e3]; simp, ?_, Lib.hid ⟨by rw [← e3]; simp; omega, fun b hb => ?_⟩⟩
              · rw [← e3]
                exact (O4.unfront (bs := [false, true])).sel [false, true, true]
              · rw [HSN.out] at hb
                rcases List.mem_append.1 hb with hb | hb
                · exact HB.out.2 b hb
                · simp at hb; subst hb; have := HBIG.out; omega
            case measure => simp [intOf]; omega
  case rest =>
    clear O
    obtain ⟨n, Aa, ca, hn, rfl, rfl, O, HB⟩ := hcut
    obtain ⟨bs, hbs⟩ : ∃ bs, bs = frames l n := ⟨_, rfl⟩
    rw [← hbs] at O HB ⊢
    have HBS := Lib.hid hbs
    clear hbs
    obtain ⟨T, hT⟩ : ∃ T, T = streamP bs := ⟨_, rfl⟩
    rw [← hT] at O HB ⊢
    have HT := Lib.hid hT
    clear hT
    have htl : T.length ≤ 131072 := HB.out.1
    have hca := (listA_cap (O.hold (bytesA Aa ca T) (by simp))).1
    skip
    have cs := O.facts
    simp only [factsP, cellsP, roomP, foots_cons, foots_nil, foots_append, foot_pt, ptb, ptb_mapA, foot_mapA, factsP_mapA, foot_bun, List.append_nil, List.nil_append, List.cons_append, List.nodup_cons, List.nodup_nil, List.mem_cons, List.not_mem_nil, List.mem_singleton, List.forall_mem_cons, not_or, not_false_eq_true, and_true, true_and, or_false, false_or, forall_eq_or_imp, forall_eq, implies_true, Nat.zero_add, Nat.reduceAdd, and_assoc, ptb_listA, factsP_listA, Nat.mul_one, byteCells, ptb_rdA, factsP_rdA, Bs.val] at cs
    go_wp2_with fail
    clear cs
    go_loopw [12, 13, 14] (fun s12 s13 s14 wr => ∃ (told at_ k : Nat) (Ah : Option Addr) (ch : Nat) (held : List UInt8), told ≤ n ∧ at_ ≤ T.length ∧ (k ≤ cu.length ∨ at_ = T.length) ∧ k ≤ cu.length + 1 ∧ s12 = .int .i64 told ∧ s13 = .int .i64 at_ ∧ s14 = .int .i64 k ∧ Mem w [] wr [bytesA Aa ca T, rdA pb Ah ch held] ∧ Hid (Str bs told at_ held ∧ (∀ b, bs[told]? = some b → held.length < (wrapP b).length))) (fun _ _ s14 _ => cu.length + 2 - (intOf s14).toNat)
    case atStart => exact ⟨0, 0, 0, none, 0, [], by omega, by omega, .inl (by omega), by omega, rfl, rfl, rfl, O, Lib.hid ⟨Str.zero bs, fun b _ => by rw [wrapP_len]; simp⟩⟩
    case round =>
      clear O
      obtain ⟨told, at_, k, Ah, ch, held, htn, hat, hk, hk1, rfl, rfl, rfl, O, HS⟩ := hrel
      have hbl : bs.length = n := by rw [HBS.out]; unfold frames; rw [List.length_map, List.length_take]; omega
      have HBL := Lib.hid hbl
      clear hbl
      by_cases hend : at_ < T.length
      · have hkc : k ≤ cu.length := by omega
        obtain ⟨cb, sz, hsz⟩ : ∃ (cb : Bool) (sz : Nat), sz ≤ T.length - at_ ∧ (k = cu.length → sz = T.length - at_) ∧ ((cb = true ∧ ∃ x : Int, cu[k]? = some x ∧ x = sz ∧ (sz : Int) < (T.length : Int) - at_) ∨ (cb = false ∧ sz = T.length - at_ ∧ (k < cu.length → ∃ x : Int, cu[k]? = some x ∧ (x < 0 ∨ (¬ x < 0 ∧ ¬ x < (T.length : Int) - at_))))) := by
          by_cases hkl : k < cu.length
          · have hx := List.getElem?_eq_getElem hkl
            by_cases h1 : cu[k] < 0
            · exact ⟨false, T.length - at_, by omega, fun _ => rfl, .inr ⟨rfl, rfl, fun _ => ⟨_, hx, .inl h1⟩⟩⟩
            · by_cases h2 : cu[k] < (T.length : Int) - at_
              · obtain ⟨q, hq⟩ := Int.eq_ofNat_of_zero_le (show 0 ≤ cu[k] by omega)
                exact ⟨true, q, by omega, fun e => by omega, .inl ⟨rfl, _, hx, hq, by omega⟩⟩
              · exact ⟨false, T.length - at_, by omega, fun _ => rfl, .inr ⟨rfl, rfl, fun _ => ⟨_, hx, .inr ⟨h1, h2⟩⟩⟩⟩
          · exact ⟨false, T.length - at_, by omega, fun _ => rfl, .inr ⟨rfl, rfl, fun h => absurd h hkl⟩⟩
        obtain ⟨hs1, hs2, hs3⟩ := hsz
        have HS3 := Lib.hid hs3
        have HS2 := Lib.hid hs2
        clear hs3 hs2 hk hk1
        have hat1 : (at_ : Int) < T.length := by omega
        obtain ⟨R, hR⟩ : ∃ R : Int, R = (T.length : Int) - at_ := ⟨_, rfl⟩
        have HR := Lib.hid hR
        have hTi : (T.length : Int) ≤ 131072 := by omega
        clear hR
        have cs := O.facts
        simp only [factsP, cellsP, roomP, foots_cons, foots_nil, foots_append, foot_pt, ptb, ptb_mapA, foot_mapA, factsP_mapA, foot_bun, List.append_nil, List.nil_append, List.cons_append, List.nodup_cons, List.nodup_nil, List.mem_cons, List.not_mem_nil, List.mem_singleton, List.forall_mem_cons, not_or, not_false_eq_true, and_true, true_and, or_false, false_or, forall_eq_or_imp, forall_eq, implies_true, Nat.zero_add, Nat.reduceAdd, and_assoc, ptb_listA, factsP_listA, Nat.mul_one, byteCells, ptb_rdA, factsP_rdA, Bs.val] at cs
        go_upto_region 20 with fail
        go_cut [88] (fun s88 wc => s88 = .bool cb ∧ Mem w [] wc [bytesA Aa ca T, rdA pb Ah ch held])
        case first =>
          by_cases hkl : k < cu.length
          · obtain ⟨b2, off2, rfl, hbb2, hq2⟩ := HC2.out k _ (List.getElem?_eq_getElem hkl)
            have hxx := List.getElem?_eq_getElem hkl
            have hb64 := HO2.out _ (List.getElem_mem hkl)
            have hc3 : (cb = true ∧ ¬ cu[k] < 0 ∧ cu[k] < (T.length : Int) - at_) ∨ (cb = false ∧ cu[k] < 0) ∨ (cb = false ∧ ¬ cu[k] < 0 ∧ ¬ cu[k] < (T.length : Int) - at_) := by
              rcases HS3.out with ⟨e, x, h1, h2, h3⟩ | ⟨e, _, h1⟩
              · rw [hxx] at h1; injection h1 with h1
                exact .inl ⟨e, by omega, by omega⟩
              · obtain ⟨x, h2, h3⟩ := h1 hkl
                rw [hxx] at h2; injection h2 with h2
                rw [h2]
                rcases h3 with h3 | h3
                · exact .inr (.inl ⟨e, h3⟩)
                · exact .inr (.inr ⟨e, h3⟩)
            generalize cu[k] = x at *
            have V := Lib.hid (fun W (h : Fr [] w W) => arg_view hbb2 hq2 h)
            simp only [cutCells, cellsQ, Nat.add_zero, Nat.mul_one, and_true] at V
            have HC3 := Lib.hid hc3
            clear hc3 hq2 hxx
            skip
            rcases HC3.out with ⟨rfl, h1, h2⟩ | ⟨rfl, h1⟩ | ⟨rfl, h1, h2⟩
            all_goals
              try (have h1' : 0 ≤ x := by omega)
              try (have h2' : ¬ x < (T.length : Int) - at_ := h2)
              clear HC3
              have cs := O.facts
              simp only [factsP, cellsP, roomP, foots_cons, foots_nil, foots_append, foot_pt, ptb, ptb_mapA, foot_mapA, factsP_mapA, foot_bun, List.append_nil, List.nil_append, List.cons_append, List.nodup_cons, List.nodup_nil, List.mem_cons, List.not_mem_nil, List.mem_singleton, List.forall_mem_cons, not_or, not_false_eq_true, and_true, true_and, or_false, false_or, forall_eq_or_imp, forall_eq, implies_true, Nat.zero_add, Nat.reduceAdd, and_assoc, ptb_listA, factsP_listA, Nat.mul_one, byteCells, ptb_rdA, factsP_rdA, Bs.val] at cs
              have v1 := V.out _ O.fr
              simp only [roomP, and_assoc] at v1
              go_wp2_with fail
              go_meet
              exact ⟨rfl, O⟩
          · have hcb : cb = false := by
              rcases HS3.out with ⟨e, x, h1, _⟩ | ⟨e, _⟩
              · rw [List.getElem?_eq_none (by omega)] at h1; simp at h1
              · exact e
            subst hcb
            skip
            have cs := O.facts
            simp only [factsP, cellsP, roomP, foots_cons, foots_nil, foots_append, foot_pt, ptb, ptb_mapA, foot_mapA, factsP_mapA, foot_bun, List.append_nil, List.nil_append, List.cons_append, List.nodup_cons, List.nodup_nil, List.mem_cons, List.not_mem_nil, List.mem_singleton, List.forall_mem_cons, not_or, not_false_eq_true, and_true, true_and, or_false, false_or, forall_eq_or_imp, forall_eq, implies_true, Nat.zero_add, Nat.reduceAdd, and_assoc, ptb_listA, factsP_listA, Nat.mul_one, byteCells, ptb_rdA, factsP_rdA, Bs.val] at cs
            go_wp2_with fail
            go_meet
            exact ⟨rfl, O⟩
        case rest =>
          clear O cs
          obtain ⟨rfl, O⟩ := hcut
          skip
          have cs := O.facts
          simp only [factsP, cellsP, roomP, foots_cons, foots_nil, foots_append, foot_pt, ptb, ptb_mapA, foot_mapA, factsP_mapA, foot_bun, List.append_nil, List.nil_append, List.cons_append, List.nodup_cons, List.nodup_nil, List.mem_cons, List.not_mem_nil, List.mem_singleton, List.forall_mem_cons, not_or, not_false_eq_true, and_true, true_and, or_false, false_or, forall_eq_or_imp, forall_eq, implies_true, Nat.zero_add, Nat.reduceAdd, and_assoc, ptb_listA, factsP_listA, Nat.mul_one, byteCells, ptb_rdA, factsP_rdA, Bs.val] at cs
          go_upto_if 88 with fail
          go_cut [15] (fun s15 wc => s15 = .int .i64 (sz : Int) ∧ Mem w [] wc [bytesA Aa ca T, rdA pb Ah ch held])
          case first =>
            rcases HS3.out with ⟨rfl, x, h1, h2, h3⟩ | ⟨rfl, h1, _⟩
            · have hkl : k < cu.length := (List.getElem?_eq_some_iff.1 h1).1
              obtain ⟨b2, off2, rfl, hbb2, hq2⟩ := HC2.out k _ h1
              have V := Lib.hid (fun W (h : Fr [] w W) => arg_view hbb2 hq2 h)
              simp only [cutCells, cellsQ, Nat.add_zero, Nat.mul_one, and_true] at V
              have H2 := Lib.hid h2
              clear h1 h2 h3 hq2
              skip
              have cs := O.facts
              simp only [factsP, cellsP, roomP, foots_cons, foots_nil, foots_append, foot_pt, ptb, ptb_mapA, foot_mapA, factsP_mapA, foot_bun, List.append_nil, List.nil_append, List.cons_append, List.nodup_cons, List.nodup_nil, List.mem_cons, List.not_mem_nil, List.mem_singleton, List.forall_mem_cons, not_or, not_false_eq_true, and_true, true_and, or_false, false_or, forall_eq_or_imp, forall_eq, implies_true, Nat.zero_add, Nat.reduceAdd, and_assoc, ptb_listA, factsP_listA, Nat.mul_one, byteCells, ptb_rdA, factsP_rdA, Bs.val] at cs
              have v1 := V.out _ O.fr
              simp only [roomP, and_assoc] at v1
              go_wp2_with fail
              go_meet
              exact ⟨by rw [H2.out], O⟩
            · have H1 := Lib.hid h1
              clear h1
              skip
              have cs := O.facts
              simp only [factsP, cellsP, roomP, foots_cons, foots_nil, foots_append, foot_pt, ptb, ptb_mapA, foot_mapA, factsP_mapA, foot_bun, List.append_nil, List.nil_append, List.cons_append, List.nodup_cons, List.nodup_nil, List.mem_cons, List.not_mem_nil, List.mem_singleton, List.forall_mem_cons, not_or, not_false_eq_true, and_true, true_and, or_false, false_or, forall_eq_or_imp, forall_eq, implies_true, Nat.zero_add, Nat.reduceAdd, and_assoc, ptb_listA, factsP_listA, Nat.mul_one, byteCells, ptb_rdA, factsP_rdA, Bs.val] at cs
              go_wp2_with fail
              go_meet
              refine ⟨?_, O⟩
              have e : (T.length : Int) - at_ = (sz : Int) := by rw [H1.out, Int.ofNat_sub hat]
              rw [e]
          case rest =>
            clear O
            obtain ⟨rfl, O⟩ := hcut
            have g1 : ¬ ((cu.length : Int) < k) := by omega
            have g2 : ¬ (cu.length < k) := by omega
            have g3 : (at_ : Int) + sz ≤ T.length := by omega
            have g4 : (at_ : Int) ≤ (at_ : Int) + sz := by omega
            have g5 : (at_ : Int) + sz ≤ ca := by omega
            have g6 : ¬ (ca = at_) := by omega
            have hrt : Rd wc Aa T := Mem.rd (c := ca) O (by simp)
            obtain ⟨gb, go, rfl, hgb⟩ := hrt.addr (by omega)
            have hpl : ((T.drop at_).take sz).length = sz := by rw [List.length_take, List.length_drop]; omega
            have hroom := HS.out.1.room
            rw [← HT.out] at hroom
            have g7 : ((at_ : Int) + sz).toNat = at_ + sz := by omega
            have g8 : at_ + sz - at_ = sz := by omega
            have FE := Lib.hid (fun W h hr => rdA_Feed W pb Ah ch held (some ⟨gb, go + at_, none⟩) (ca - at_) ((T.drop at_).take sz) h hr (by rw [hpl]; omega))
            rw [hpl] at FE
            have HPL := Lib.hid hpl
            clear hpl hrt
            have cs := O.facts
            simp only [factsP, cellsP, roomP, foots_cons, foots_nil, foots_append, foot_pt, ptb, ptb_mapA, foot_mapA, factsP_mapA, foot_bun, List.append_nil, List.nil_append, List.cons_append, List.nodup_cons, List.nodup_nil, List.mem_cons, List.not_mem_nil, List.mem_singleton, List.forall_mem_cons, not_or, not_false_eq_true, and_true, true_and, or_false, false_or, forall_eq_or_imp, forall_eq, implies_true, Nat.zero_add, Nat.reduceAdd, and_assoc, ptb_listA, factsP_listA, Nat.mul_one, byteCells, ptb_rdA, factsP_rdA, Bs.val] at cs
            go_wp2_with fail
            first | apply Mem.atCall | apply Mem.atCode | apply Mem.atList
            case h => repeat' (first | (with_reducible exact O) | (with_reducible apply Mem.drew) | (with_reducible apply Mem.drewN) | (with_reducible apply Mem.ext) | (with_reducible apply Mem.alloc) | (with_reducible apply Mem.setCell) | (simp only [ptb, ptb_upd, foots_cons, List.mem_cons, World.size_alloc, size_ext, World.size_setCell, true_or, or_true, eq_self_iff_true]))
            case' k =>
              intro y1 O'
              (try clear O)
              have O := O'
              clear O'
              (first | simp only [sel, rst, List.cons_append, List.nil_append, World.size_alloc, size_ext, World.size_setCell, size_setMap, World.size_drew, size_drewN, upd, List.set_cons_zero, List.set_cons_succ, if_true, if_false, reduceIte, not_false_eq_true, ne_lt0, ne_lt1, ne_lt2, ne_lt3, ne_lt4, cs] at O | simp only [sel, rst, List.cons_append, List.nil_append, World.size_alloc, size_ext, World.size_setCell, size_setMap, World.size_drew, size_drewN, upd, List.set_cons_zero, List.set_cons_succ, if_true, if_false, reduceIte, not_false_eq_true, ne_lt0, ne_lt1, ne_lt2, ne_lt3, ne_lt4] at O | skip)
              (try clear cs)
              (try clear v1)
              (try clear v2)
              (try clear v3)
            refine (FE.out y1 (O.pre [false, true]) (((Mem.rd (c := ca) O (by simp)).drop at_).take sz)).mono ?_
            rintro e y2 ⟨rfl, A3, c3, o⟩
            replace O := O.callp [false, true] o
            clear o
            simp only [put, List.cons_append, List.nil_append] at O
            have hst := (HS.out.1.feed sz (by rw [← HT.out]; omega))
            rw [← HT.out] at hst
            have HST := Lib.hid hst
            clear FE g1 g2 g4 g5 g6 g7 g8 hroom hst
            generalize held ++ (T.drop at_).take sz = held1 at *
            have cs := O.facts
            simp only [factsP, cellsP, roomP, foots_cons, foots_nil, foots_append, foot_pt, ptb, ptb_mapA, foot_mapA, factsP_mapA, foot_bun, List.append_nil, List.nil_append, List.cons_append, List.nodup_cons, List.nodup_nil, List.mem_cons, List.not_mem_nil, List.mem_singleton, List.forall_mem_cons, not_or, not_false_eq_true, and_true, true_and, or_false, false_or, forall_eq_or_imp, forall_eq, implies_true, Nat.zero_add, Nat.reduceAdd, and_assoc, ptb_listA, factsP_listA, Nat.mul_one, byteCells, ptb_rdA, factsP_rdA, Bs.val] at cs
            go_wp2_with fail
            clear cs
            go_loopw [12] (fun s12 wr => ∃ (told : Nat) (Ah : Option Addr) (ch : Nat) (held : List UInt8), told ≤ n ∧ s12 = .int .i64 told ∧ Mem w [] wr [bytesA (some ⟨gb, go, none⟩) ca T, rdA pb Ah ch held] ∧ Hid (Str bs told (at_ + sz) held)) (fun s12 _ => n - (intOf s12).toNat)
            case atStart => exact ⟨told, A3, c3, held1, htn, rfl, O, HST⟩
            case round =>
              clear O
              obtain ⟨told2, Ah2, ch2, held2, htn2, rfl, O, HSR⟩ := hrel
              have hroom2 := HSR.out.room
              rw [← HT.out] at hroom2
              have hnx := HSR.out.next HB.out.2
              have NX := Lib.hid (fun W h => rdA_Next W pb Ah2 ch2 held2 h (by omega))
              generalize nextP held2 = nx at hnx NX
              obtain ⟨xb, xi, xe, xh⟩ := nx
              simp only at NX
              have HNX := Lib.hid hnx
              clear hnx
              rcases HNX.out with ⟨b, hb, hle, hnx, hstr⟩ | ⟨hnx, hstuck⟩
              · simp only [Prod.mk.injEq] at hnx
                obtain ⟨rfl, rfl, rfl, rfl⟩ := hnx
                have htb : told2 < n := by
                  have := (List.getElem?_eq_some_iff.1 hb).1
                  rw [HBL.out] at this
                  exact this
                have htl : told2 < l.length := by omega
                obtain ⟨b3, off3, rfl, hbb3, hq3⟩ := HC.out told2 _ (List.getElem?_eq_getElem htl)
                have hoo := HO.out _ (List.getElem_mem htl)
                have hlb : l[told2].l = xb := by
                  rw [HBS.out] at hb
                  unfold frames at hb
                  rw [List.getElem?_map, List.getElem?_take, if_pos htb, List.getElem?_eq_getElem htl] at hb
                  simpa using hb
                generalize l[told2] = o at *
                have V := Lib.hid (fun W (h : Fr [] w W) => arg_view hbb3 hq3 h)
                obtain ⟨oA, oc, ol⟩ := o
                simp only at hlb
                subst hlb
                simp only at hoo
                have HOO := Lib.hid hoo
                have HSTR := Lib.hid hstr
                clear hoo hq3 hb hle hstr HNX
                simp only [bsCells, Bs.val, cellsQ, Nat.add_zero, Nat.mul_one, and_true] at V
                have hti : ¬ ((n : Int) ≤ told2) := by omega
                skip
                have cs := O.facts
                simp only [factsP, cellsP, roomP, foots_cons, foots_nil, foots_append, foot_pt, ptb, ptb_mapA, foot_mapA, factsP_mapA, foot_bun, List.append_nil, List.nil_append, List.cons_append, List.nodup_cons, List.nodup_nil, List.mem_cons, List.not_mem_nil, List.mem_singleton, List.forall_mem_cons, not_or, not_false_eq_true, and_true, true_and, or_false, false_or, forall_eq_or_imp, forall_eq, implies_true, Nat.zero_add, Nat.reduceAdd, and_assoc, ptb_listA, factsP_listA, Nat.mul_one, byteCells, ptb_rdA, factsP_rdA, Bs.val] at cs
                have v1 := V.out _ O.fr
                simp only [roomP, and_assoc] at v1
                go_wp2_with fail
                first | apply Mem.atCall | apply Mem.atCode | apply Mem.atList
                case h => repeat' (first | (with_reducible exact O) | (with_reducible apply Mem.drew) | (with_reducible apply Mem.drewN) | (with_reducible apply Mem.ext) | (with_reducible apply Mem.alloc) | (with_reducible apply Mem.setCell) | (simp only [ptb, ptb_upd, foots_cons, List.mem_cons, World.size_alloc, size_ext, World.size_setCell, true_or, or_true, eq_self_iff_true]))
                case' k =>
                  intro z1 O'
                  (try clear O)
                  have O := O'
                  clear O'
                  (first | simp only [sel, rst, List.cons_append, List.nil_append, World.size_alloc, size_ext, World.size_setCell, size_setMap, World.size_drew, size_drewN, upd, List.set_cons_zero, List.set_cons_succ, if_true, if_false, reduceIte, not_false_eq_true, ne_lt0, ne_lt1, ne_lt2, ne_lt3, ne_lt4, cs] at O | simp only [sel, rst, List.cons_append, List.nil_append, World.size_alloc, size_ext, World.size_setCell, size_setMap, World.size_drew, size_drewN, upd, List.set_cons_zero, List.set_cons_succ, if_true, if_false, reduceIte, not_false_eq_true, ne_lt0, ne_lt1, ne_lt2, ne_lt3, ne_lt4] at O | skip)
                  (try clear cs)
                  (try clear v1)
                  (try clear v2)
                  (try clear v3)
                refine (NX.out z1 (O.pre [false, true])).mono ?_
                rintro e z2 ⟨B9, d9, A9, c9, rfl, o⟩
                replace O := O.callp [false, true] o
                clear o
                simp only [put, List.cons_append, List.nil_append] at O
                have cs := O.facts
                simp only [factsP, cellsP, roomP, foots_cons, foots_nil, foots_append, foot_pt, ptb, ptb_mapA, foot_mapA, factsP_mapA, foot_bun, List.append_nil, List.nil_append, List.cons_append, List.nodup_cons, List.nodup_nil, List.mem_cons, List.not_mem_nil, List.mem_singleton, List.forall_mem_cons, not_or, not_false_eq_true, and_true, true_and, or_false, false_or, forall_eq_or_imp, forall_eq, implies_true, Nat.zero_add, Nat.reduceAdd, and_assoc, ptb_listA, factsP_listA, Nat.mul_one, byteCells, ptb_rdA, factsP_rdA, Bs.val] at cs
                have v1 := V.out _ O.fr
                simp only [roomP, and_assoc] at v1
                go_wp2_with fail
                first | apply Mem.atCall | apply Mem.atCode | apply Mem.atList
                case h => repeat' (first | (with_reducible exact O) | (with_reducible apply Mem.drew) | (with_reducible apply Mem.drewN) | (with_reducible apply Mem.ext) | (with_reducible apply Mem.alloc) | (with_reducible apply Mem.setCell) | (simp only [ptb, ptb_upd, foots_cons, List.mem_cons, World.size_alloc, size_ext, World.size_setCell, true_or, or_true, eq_self_iff_true]))
                case' k =>
                  intro z3 O'
                  (try clear O)
                  have O := O'
                  clear O'
                  (first | simp only [sel, rst, List.cons_append, List.nil_append, World.size_alloc, size_ext, World.size_setCell, size_setMap, World.size_drew, size_drewN, upd, List.set_cons_zero, List.set_cons_succ, if_true, if_false, reduceIte, not_false_eq_true, ne_lt0, ne_lt1, ne_lt2, ne_lt3, ne_lt4, cs] at O | simp only [sel, rst, List.cons_append, List.nil_append, World.size_alloc, size_ext, World.size_setCell, size_setMap, World.size_drew, size_drewN, upd, List.set_cons_zero, List.set_cons_succ, if_true, if_false, reduceIte, not_false_eq_true, ne_lt0, ne_lt1, ne_lt2, ne_lt3, ne_lt4] at O | skip)
                  (try clear cs)
                  (try clear v1)
                  (try clear v2)
                  (try clear v3)
                refine (r_Same _ B9 d9 ol oA oc ol (Mem.rd (c := d9) O (by simp)) (HOO.out.1.fr O.fr) (by have := HOO.out.2.2; omega)).mono ?_
                rintro e z4 ⟨rfl, o⟩
                replace O := O.callp [] o
                clear o
                simp only [put, List.cons_append, List.nil_append] at O
                rw [show decide (ol = ol) = true by simp]
                skip
                have cs := O.facts
                simp only [factsP, cellsP, roomP, foots_cons, foots_nil, foots_append, foot_pt, ptb, ptb_mapA, foot_mapA, factsP_mapA, foot_bun, List.append_nil, List.nil_append, List.cons_append, List.nodup_cons, List.nodup_nil, List.mem_cons, List.not_mem_nil, List.mem_singleton, List.forall_mem_cons, not_or, not_false_eq_true, and_true, true_and, or_false, false_or, forall_eq_or_imp, forall_eq, implies_true, Nat.zero_add, Nat.reduceAdd, and_assoc, ptb_listA, factsP_listA, Nat.mul_one, byteCells, ptb_rdA, factsP_rdA, Bs.val] at cs
                go_wp2_with fail
                go_roundw
                case rel =>
                  refine ⟨told2 + 1, A9, c9, _, by omega, by go_num, ?_, HSTR⟩
                  apply Mem.to [true, true, false]
                  · repeat' (first | (with_reducible exact O) | (with_reducible apply Mem.drew) | (with_reducible apply Mem.drewN) | (with_reducible apply Mem.ext) | (with_reducible apply Mem.alloc) | (with_reducible apply Mem.setCell) | (simp only [ptb, ptb_upd, foots_cons, List.mem_cons, World.size_alloc, size_ext, World.size_setCell, true_or, or_true, eq_self_iff_true]))
                  · first | with_reducible rfl | (simp only [sel, rst, List.cons_append, List.nil_append, World.size_alloc, size_ext, World.size_setCell, size_setMap, World.size_drew, size_drewN, upd, List.set_cons_zero, List.set_cons_succ, if_true, if_false, reduceIte, not_false_eq_true, ne_lt0, ne_lt1, ne_lt2, ne_lt3, ne_lt4, cs]; done) | (simp only [sel, rst, List.cons_append, List.nil_append, World.size_alloc, size_ext, World.size_setCell, size_setMap, World.size_drew, size_drewN, upd, List.set_cons_zero, List.set_cons_succ, if_true, if_false, reduceIte, not_false_eq_true, ne_lt0, ne_lt1, ne_lt2, ne_lt3, ne_lt4]; done) | (simp only [sel, rst, List.cons_append, List.nil_append, World.size_alloc, size_ext, World.size_setCell, size_setMap, World.size_drew, size_drewN, upd, List.set_cons_zero, List.set_cons_succ, if_true, if_false, reduceIte, not_false_eq_true, ne_lt0, ne_lt1, ne_lt2, ne_lt3, ne_lt4, cs]; rfl) | (simp only [sel, rst, List.cons_append, List.nil_append, World.size_alloc, size_ext, World.size_setCell, size_setMap, World.size_drew, size_drewN, upd, List.set_cons_zero, List.set_cons_succ, if_true, if_false, reduceIte, not_false_eq_true, ne_lt0, ne_lt1, ne_lt2, ne_lt3, ne_lt4]; rfl)
                case measure => simp [intOf]; omega
              · simp only [Prod.mk.injEq] at hnx
                obtain ⟨rfl, rfl, rfl, rfl⟩ := hnx
                have HSK := Lib.hid hstuck
                clear hstuck HNX
                skip
                have cs := O.facts
                simp only [factsP, cellsP, roomP, foots_cons, foots_nil, foots_append, foot_pt, ptb, ptb_mapA, foot_mapA, factsP_mapA, foot_bun, List.append_nil, List.nil_append, List.cons_append, List.nodup_cons, List.nodup_nil, List.mem_cons, List.not_mem_nil, List.mem_singleton, List.forall_mem_cons, not_or, not_false_eq_true, and_true, true_and, or_false, false_or, forall_eq_or_imp, forall_eq, implies_true, Nat.zero_add, Nat.reduceAdd, and_assoc, ptb_listA, factsP_listA, Nat.mul_one, byteCells, ptb_rdA, factsP_rdA, Bs.val] at cs
                go_wp2_with fail
                first | apply Mem.atCall | apply Mem.atCode | apply Mem.atList
                case h => repeat' (first | (with_reducible exact O) | (with_reducible apply Mem.drew) | (with_reducible apply Mem.drewN) | (with_reducible apply Mem.ext) | (with_reducible apply Mem.alloc) | (with_reducible apply Mem.setCell) | (simp only [ptb, ptb_upd, foots_cons, List.mem_cons, World.size_alloc, size_ext, World.size_setCell, true_or, or_true, eq_self_iff_true]))
                case' k =>
                  intro z1 O'
                  (try clear O)
                  have O := O'
                  clear O'
                  (first | simp only [sel, rst, List.cons_append, List.nil_append, World.size_alloc, size_ext, World.size_setCell, size_setMap, World.size_drew, size_drewN, upd, List.set_cons_zero, List.set_cons_succ, if_true, if_false, reduceIte, not_false_eq_true, ne_lt0, ne_lt1, ne_lt2, ne_lt3, ne_lt4, cs] at O | simp only [sel, rst, List.cons_append, List.nil_append, World.size_alloc, size_ext, World.size_setCell, size_setMap, World.size_drew, size_drewN, upd, List.set_cons_zero, List.set_cons_succ, if_true, if_false, reduceIte, not_false_eq_true, ne_lt0, ne_lt1, ne_lt2, ne_lt3, ne_lt4] at O | skip)
                  (try clear cs)
                  (try clear v1)
                  (try clear v2)
                  (try clear v3)
                refine (NX.out z1 (O.pre [false, true])).mono ?_
                rintro e z2 ⟨B9, d9, A9, c9, rfl, o⟩
                replace O := O.callp [false, true] o
                clear o
                simp only [put, List.cons_append, List.nil_append] at O
                have cs := O.facts
                simp only [factsP, cellsP, roomP, foots_cons, foots_nil, foots_append, foot_pt, ptb, ptb_mapA, foot_mapA, factsP_mapA, foot_bun, List.append_nil, List.nil_append, List.cons_append, List.nodup_cons, List.nodup_nil, List.mem_cons, List.not_mem_nil, List.mem_singleton, List.forall_mem_cons, not_or, not_false_eq_true, and_true, true_and, or_false, false_or, forall_eq_or_imp, forall_eq, implies_true, Nat.zero_add, Nat.reduceAdd, and_assoc, ptb_listA, factsP_listA, Nat.mul_one, byteCells, ptb_rdA, factsP_rdA, Bs.val] at cs
                go_wp2_with fail
                go_roundw
                case rel =>
                  refine ⟨told2, at_ + sz, k + 1, A9, c9, _, htn2, by omega, ?_, by omega, rfl, by go_num, by go_num, ?_, Lib.hid ⟨HSR.out, HSK.out.1⟩⟩
                  · by_cases hke : k = cu.length
                    · right
                      have := HS2.out hke
                      omega
                    · left
                      omega
                  · apply Mem.to [true, true, false]
                    · repeat' (first | (with_reducible exact O) | (with_reducible apply Mem.drew) | (with_reducible apply Mem.drewN) | (with_reducible apply Mem.ext) | (with_reducible apply Mem.alloc) | (with_reducible apply Mem.setCell) | (simp only [ptb, ptb_upd, foots_cons, List.mem_cons, World.size_alloc, size_ext, World.size_setCell, true_or, or_true, eq_self_iff_true]))
                    · first | with_reducible rfl | (simp only [sel, rst, List.cons_append, List.nil_append, World.size_alloc, size_ext, World.size_setCell, size_setMap, World.size_drew, size_drewN, upd, List.set_cons_zero, List.set_cons_succ, if_true, if_false, reduceIte, not_false_eq_true, ne_lt0, ne_lt1, ne_lt2, ne_lt3, ne_lt4, cs]; done) | (simp only [sel, rst, List.cons_append, List.nil_append, World.size_alloc, size_ext, World.size_setCell, size_setMap, World.size_drew, size_drewN, upd, List.set_cons_zero, List.set_cons_succ, if_true, if_false, reduceIte, not_false_eq_true, ne_lt0, ne_lt1, ne_lt2, ne_lt3, ne_lt4]; done) | (simp only [sel, rst, List.cons_append, List.nil_append, World.size_alloc, size_ext, World.size_setCell, size_setMap, World.size_drew, size_drewN, upd, List.set_cons_zero, List.set_cons_succ, if_true, if_false, reduceIte, not_false_eq_true, ne_lt0, ne_lt1, ne_lt2, ne_lt3, ne_lt4, cs]; rfl) | (simp only [sel, rst, List.cons_append, List.nil_append, World.size_alloc, size_ext, World.size_setCell, size_setMap, World.size_drew, size_drewN, upd, List.set_cons_zero, List.set_cons_succ, if_true, if_false, reduceIte, not_false_eq_true, ne_lt0, ne_lt1, ne_lt2, ne_lt3, ne_lt4]; rfl)
                case measure => simp [intOf]; omega
      · obtain rfl : at_ = T.length := by omega
        have he := HS.out.1
        rw [HT.out] at he
        obtain ⟨h1, h2⟩ := he.end_ HS.out.2
        rw [HBL.out] at h1
        subst h1 h2
        have cs := O.facts
        simp only [factsP, cellsP, roomP, foots_cons, foots_nil, foots_append, foot_pt, ptb, ptb_mapA, foot_mapA, factsP_mapA, foot_bun, List.append_nil, List.nil_append, List.cons_append, List.nodup_cons, List.nodup_nil, List.mem_cons, List.not_mem_nil, List.mem_singleton, List.forall_mem_cons, not_or, not_false_eq_true, and_true, true_and, or_false, false_or, forall_eq_or_imp, forall_eq, implies_true, Nat.zero_add, Nat.reduceAdd, and_assoc, ptb_listA, factsP_listA, Nat.mul_one, byteCells, ptb_rdA, factsP_rdA, Bs.val] at cs
        go_wp2_with fail
        first | apply Mem.atCall | apply Mem.atCode | apply Mem.atList
        case h => repeat' (first | (with_reducible exact O) | (with_reducible apply Mem.drew) | (with_reducible apply Mem.drewN) | (with_reducible apply Mem.ext) | (with_reducible apply Mem.alloc) | (with_reducible apply Mem.setCell) | (simp only [ptb, ptb_upd, foots_cons, List.mem_cons, World.size_alloc, size_ext, World.size_setCell, true_or, or_true, eq_self_iff_true]))
        case' k =>
          intro x1 O'
          (try clear O)
          have O := O'
          clear O'
          (first | simp only [sel, rst, List.cons_append, List.nil_append, World.size_alloc, size_ext, World.size_setCell, size_setMap, World.size_drew, size_drewN, upd, List.set_cons_zero, List.set_cons_succ, if_true, if_false, reduceIte, not_false_eq_true, ne_lt0, ne_lt1, ne_lt2, ne_lt3, ne_lt4, cs] at O | simp only [sel, rst, List.cons_append, List.nil_append, World.size_alloc, size_ext, World.size_setCell, size_setMap, World.size_drew, size_drewN, upd, List.set_cons_zero, List.set_cons_succ, if_true, if_false, reduceIte, not_false_eq_true, ne_lt0, ne_lt1, ne_lt2, ne_lt3, ne_lt4] at O | skip)
          (try clear cs)
          (try clear v1)
          (try clear v2)
          (try clear v3)
        refine (rdA_Waiting _ pb Ah ch [] (O.pre [false, true])).mono ?_
        rintro e x2 ⟨rfl, o⟩
        replace O := O.callp [] o
        clear o
        simp only [put, List.cons_append, List.nil_append] at O
        simp only [List.length_nil]
        have cs := O.facts
        simp only [factsP, cellsP, roomP, foots_cons, foots_nil, foots_append, foot_pt, ptb, ptb_mapA, foot_mapA, factsP_mapA, foot_bun, List.append_nil, List.nil_append, List.cons_append, List.nodup_cons, List.nodup_nil, List.mem_cons, List.not_mem_nil, List.mem_singleton, List.forall_mem_cons, not_or, not_false_eq_true, and_true, true_and, or_false, false_or, forall_eq_or_imp, forall_eq, implies_true, Nat.zero_add, Nat.reduceAdd, and_assoc, ptb_listA, factsP_listA, Nat.mul_one, byteCells, ptb_rdA, factsP_rdA, Bs.val] at cs
        go_wp2_with fail
        go_ret
        exact ⟨rfl, O.fr.below rfl⟩
theorem cells_bytes : Try.prog.cellsOf 22 = 1 := by kernel_rfl
theorem cells_int' : Try.prog.cellsOf 3 = 1 := by kernel_rfl
theorem read_bs {w : World} {N f : Nat} {cs : List Value} (h : Typed Try.prog w N f 22 cs) : ∃ b : Bs, (Rd w b.A b.l ∧ b.l.length ≤ b.c ∧ b.l.length ≤ N) ∧ cs = bsCells b := by
  obtain ⟨A, len, cap, f', hv, _, _⟩ := typed_slice Try.underlying22 (by rw [cells_u8']; omega) h
  subst hv
  obtain ⟨B, c, l, h1, h2, h3, h4, _⟩ := read_bytes h
  exact ⟨⟨B, c, l⟩, ⟨h4, h2, h3⟩, by rw [h1]; rfl⟩
theorem read_cut {w : World} {N f : Nat} {cs : List Value} (h : Typed Try.prog w N f 3 cs) : ∃ x : Int, (-9223372036854775808 ≤ x ∧ x ≤ 9223372036854775807) ∧ cs = cutCells x := by
  obtain ⟨n, h1, h2⟩ := typed_int Try.underlying3 h
  exact ⟨n, bound64' h2, h1⟩
set_option maxRecDepth 100000 in
theorem readFrameStream_49 : Try.prog.readableRec 49 = true ∧ 49 < Try.prog.types.size := ⟨by kernel_rfl, of_decide_eq_true (by kernel_rfl)⟩
set_option maxRecDepth 100000 in
theorem readFrameStream_50 : Try.prog.readableRec 50 = true ∧ 50 < Try.prog.types.size := ⟨by kernel_rfl, of_decide_eq_true (by kernel_rfl)⟩
set_option maxRecDepth 100000 in
theorem ownFrameStream : ownKnob Try.prog.godebug = none := by kernel_rfl
set_option maxRecDepth 100000 in
theorem laidOutFrameStream : laidOutB Try.prog = true := by kernel_rfl
set_option maxRecDepth 100000 in
theorem contractFrameStream (H : Type) (enc : TypeId × Value → H) (W : World) (base : Nat) (args : Array Value) (ds gs : List (DataW H)) (before : List MemPlace)
    (hval : ∀ (j : Nat) t v, Try.f7.params[j]? = some t → args[j]? = some v → Value.okWide Try.prog W .any base t v)
    (hW : DataW.Whole enc Try.prog Try.f7.params.toList Rows.frameStreamSpec.vars false W args.toList ds gs before) (hk : Rows.uptoSmall H (ds ++ gs) = true) :
    Calls Try.prog 7 args W fun e W' => ∃ v, e = .returned v ∧ Rows.frameStreamSpec.post enc Try.prog Try.f7 false true false false W args v W' := by
  have hfin : ∀ W', Below W.heap.size W W' → Rows.frameStreamSpec.post enc Try.prog Try.f7 false true false false W args (.bool true) W' := fun W' hb =>
    post_of_walk (n := 2) (boolT := 4) rfl (fun ds h => by match ds, h with | [a0, a1], _ => exact ⟨rfl, rfl, rfl⟩) rfl rfl Try.underlying4 laidOutFrameStream (fun t ht => by rw [Try.params7] at ht; simp at ht; rcases ht with rfl | rfl; exact readFrameStream_49; exact readFrameStream_50) hW hb
  have hN : Rows.uptoBulkAll (ds ++ gs) ≤ 1048576 := of_decide_eq_true hk
  obtain ⟨p, q, hA, hV, rfl, hfz, hnd⟩ := hW
  rw [Try.params7] at hA hval
  obtain ⟨v0, vs0, d0, ds0, p0, q0, hargs, rfl, rfl, h0, r0⟩ := trodAll_cons hA
  obtain ⟨v1, vs1, d1, ds1, p1, q1, rfl, rfl, rfl, h1, r1⟩ := trodAll_cons r0
  obtain ⟨rfl, rfl, rfl⟩ := trodAll_nil r1
  obtain rfl : args = #[v0, v1] := by cases args; simp_all
  simp only [List.cons_append, List.nil_append, Rows.uptoBulkAll] at hN
  obtain ⟨A0, len0, cap0, rfl⟩ := okWide_slice Try.underlying49 (hval 0 49 v0 rfl rfl)
  obtain ⟨f0, g0⟩ := h0
  have ty0 := typed_of_trod (N := 1048576) f0 _ _ _ g0 (by simp only; omega)
  obtain ⟨A1, len1, cap1, rfl⟩ := okWide_slice Try.underlying50 (hval 1 50 v1 rfl rfl)
  obtain ⟨f1, g1⟩ := h1
  have ty1 := typed_of_trod (N := 1048576) f1 _ _ _ g1 (by simp only; omega)
  obtain ⟨l, hl, hok⟩ := read_list (cs := bsCells) (ok := fun b : Bs => Rd W b.A b.l ∧ b.l.length ≤ b.c ∧ b.l.length ≤ 1048576) Try.underlying49 cells_bytes (by omega) (fun f' l' h => read_bs h) (Nat.le_refl _) ty0
  obtain ⟨cu, hcu, hcb⟩ := read_list (cs := cutCells) (ok := fun x : Int => -9223372036854775808 ≤ x ∧ x ≤ 9223372036854775807) Try.underlying50 cells_int' (by omega) (fun f' l' h => read_cut h) (Nat.le_refl _) ty1
  exact (walkStream _ _ l cu W hl hok hcu hcb).mono fun e W' ⟨he, hy⟩ => ⟨_, he, hfin W' hy⟩

set_option maxRecDepth 100000 in
theorem liftedFrameStream (os : Os) (started : os.Started) (H : Type) (enc : TypeId × Value → H) (F : Stop.Interp) :
    ReturnsInHanded {} Try.checked os 7 .any ((Rows.OpenSpec.upto Rows.frameStreamSpec).pre6 enc Try.prog Try.f7 Rows.frameStreamUptoRow.domain false) (((Rows.OpenSpec.upto Rows.frameStreamSpec).at F).post enc Try.prog Try.f7 false true false false) := by
  refine returnsInHanded_of_cond (C := Try.checked) (s := Rows.OpenSpec.upto Rows.frameStreamSpec) (k := Rows.uptoSmall) rfl ownFrameStream started (by kernel_rfl) Try.func7
    (OpenSpec.witness (enc := enc) (C := Try.checked) (s := Rows.OpenSpec.upto Rows.frameStreamSpec) (k := Rows.uptoSmall) rfl false
      ⟨#[], #[.slice none 0 0, .slice none 0 0], []⟩ 8 (by kernel_rfl) (by kernel_rfl) (by kernel_rfl)
      (x := ([.nil, .nil], [], [])) (by kernel_rfl) rfl (by kernel_rfl)) ?_
  intro W base args ds gs before hval hW _ hk _
  exact contractFrameStream H enc W base args ds gs before hval hW hk

theorem FrameStream_holds : Rows.FrameStreamUptoSaid :=
  OpenClaim.holds_of_cond 7 Try.f7 rfl rfl rfl rfl rfl rfl rfl ⟨rfl, rfl, rfl, rfl, rfl⟩ rfl rfl rfl rfl rfl (by kernel_rfl) Try.func7 (by kernel_rfl)
    (of_decide_eq_true (by kernel_rfl)) (by unfold Func.isWrapper; first | (rw [if_pos (by decide +kernel)]; kernel_rfl) | (rw [if_neg (by decide +kernel)]; exact ⟨rfl, rfl⟩))
    (fun os started H enc _ F => liftedFrameStream os started H enc F)
end Go.Proofs.Ytomcahmgmmbmmaa
