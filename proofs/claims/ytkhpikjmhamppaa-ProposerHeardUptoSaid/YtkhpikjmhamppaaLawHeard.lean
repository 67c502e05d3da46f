/- PROVED: what is chosen stays chosen (ProposerHeard): for arguments of bulk at most 1048576, the law returns true, and each argument reads behind the call as it read before. -/
import Derived.Test.YtkhpikjmhamppaaHeardPlain
import Derived.Test.YtkhpikjmhamppaaMore11
set_option linter.unusedVariables false
set_option linter.unusedSimpArgs false
namespace Go.Proofs.Ytkhpikjmhamppaa
open Go.RowKit Go.WideShapes Go.ChangeShapes Go.ChangeAt Go.Tk

set_option maxRecDepth 100000 in
set_option maxHeartbeats 16000000 in
theorem walkHeard (c : Int) (sv : Value) (l : List Op11) (w : World) (hc : -9223372036854775808 ≤ c ∧ c ≤ 9223372036854775807) (hs : ArgList w 11 Op11.cells sv l) (hok : ∀ o ∈ l, o.ok) : Calls Try.prog 4 #[.int .i64 c, sv] w (fun e w' => e = .returned (.bool true) ∧ Below w.heap.size w w') := by
  obtain ⟨hl, A, cp, rfl, hcs⟩ := hs
  have HC := Lib.hid hcs
  have HO := Lib.hid hok
  clear hcs hok
  have O : Mem w [] w [] := Mem.begin
  have PK := Lib.hid (fun W => law_pick c 9 W hc (by omega) (by omega))
  have hr := pick11_range (c := c) (n := 9) (by omega)
  generalize pick11 c 9 = q at *
  obtain ⟨n, hn⟩ : ∃ n, n = 1 + q := ⟨_, rfl⟩
  have hn1 : 1 ≤ n := by omega
  have hn9 : n ≤ 9 := by omega
  obtain rfl : q = n - 1 := by omega
  clear hn hr hc
  have hw : IntKind.i64.wrap (1 + (n - 1)) = n := by simp [IntKind.wrap, IntKind.signed, IntKind.bits]; omega
  go_enter Try.func4, Try.ntmps4
  have cs := O.facts
  simp only [factsP, cellsP, roomP, foots_cons, foots_nil, foots_append, foot_pt, ptb, ptb_mapA, foot_mapA, factsP_mapA, foot_bun, List.append_nil, List.nil_append, List.cons_append, List.nodup_cons, List.nodup_nil, List.mem_cons, List.not_mem_nil, List.mem_singleton, List.forall_mem_cons, not_or, not_false_eq_true, and_true, true_and, or_false, false_or, forall_eq_or_imp, forall_eq, implies_true, Nat.zero_add, Nat.reduceAdd, and_assoc, ptb_propA, factsP_propA, ptb_learnA, factsP_learnA] at cs
  go_wp2_with fail
  first | apply Mem.atCall | apply Mem.atCode | apply Mem.atList
  case h => repeat' (first | (with_reducible exact O) | (with_reducible apply Mem.drew) | (with_reducible apply Mem.drewN) | (with_reducible apply Mem.ext) | (with_reducible apply Mem.alloc) | (with_reducible apply Mem.setCell) | (simp only [ptb, ptb_upd, foots_cons, List.mem_cons, World.size_alloc, size_ext, World.size_setCell, true_or, or_true, eq_self_iff_true]))
  case' k =>
    intro w1 O'
    (try clear O)
    have O := O'
    clear O'
    (first | simp only [sel, rst, List.cons_append, List.nil_append, World.size_alloc, size_ext, World.size_setCell, size_setMap, World.size_drew, size_drewN, upd, List.set_cons_zero, List.set_cons_succ, if_true, if_false, reduceIte, not_false_eq_true, ne_lt0, ne_lt1, ne_lt2, ne_lt3, ne_lt4, cs] at O | simp only [sel, rst, List.cons_append, List.nil_append, World.size_alloc, size_ext, World.size_setCell, size_setMap, World.size_drew, size_drewN, upd, List.set_cons_zero, List.set_cons_succ, if_true, if_false, reduceIte, not_false_eq_true, ne_lt0, ne_lt1, ne_lt2, ne_lt3, ne_lt4] at O | skip)
    (try clear cs)
    (try clear v1)
    (try clear v2)
    (try clear v3)
  refine (PK.out _).mono ?_
  rintro e w2 ⟨rfl, o⟩
  replace O := O.callp [] o
  clear o
  simp only [put, List.cons_append, List.nil_append] at O
  have cs := O.facts
  simp only [factsP, cellsP, roomP, foots_cons, foots_nil, foots_append, foot_pt, ptb, ptb_mapA, foot_mapA, factsP_mapA, foot_bun, List.append_nil, List.nil_append, List.cons_append, List.nodup_cons, List.nodup_nil, List.mem_cons, List.not_mem_nil, List.mem_singleton, List.forall_mem_cons, not_or, not_false_eq_true, and_true, true_and, or_false, false_or, forall_eq_or_imp, forall_eq, implies_true, Nat.zero_add, Nat.reduceAdd, and_assoc, ptb_propA, factsP_propA, ptb_learnA, factsP_learnA] at cs
  go_wp2_with fail
  first | apply Mem.atCall | apply Mem.atCode | apply Mem.atList
  case h => repeat' (first | (with_reducible exact O) | (with_reducible apply Mem.drew) | (with_reducible apply Mem.drewN) | (with_reducible apply Mem.ext) | (with_reducible apply Mem.alloc) | (with_reducible apply Mem.setCell) | (simp only [ptb, ptb_upd, foots_cons, List.mem_cons, World.size_alloc, size_ext, World.size_setCell, true_or, or_true, eq_self_iff_true]))
  case' k =>
    intro w3 O'
    (try clear O)
    have O := O'
    clear O'
    (first | simp only [sel, rst, List.cons_append, List.nil_append, World.size_alloc, size_ext, World.size_setCell, size_setMap, World.size_drew, size_drewN, upd, List.set_cons_zero, List.set_cons_succ, if_true, if_false, reduceIte, not_false_eq_true, ne_lt0, ne_lt1, ne_lt2, ne_lt3, ne_lt4, cs] at O | simp only [sel, rst, List.cons_append, List.nil_append, World.size_alloc, size_ext, World.size_setCell, size_setMap, World.size_drew, size_drewN, upd, List.set_cons_zero, List.set_cons_succ, if_true, if_false, reduceIte, not_false_eq_true, ne_lt0, ne_lt1, ne_lt2, ne_lt3, ne_lt4] at O | skip)
    (try clear cs)
    (try clear v1)
    (try clear v2)
    (try clear v3)
  refine (lA_New _ n ⟨hn1, hn9⟩).mono ?_
  rintro e w4 ⟨rfl, o⟩
  replace O := O.callp [] o
  clear o
  simp only [put, List.cons_append, List.nil_append] at O
  have cs := O.facts
  simp only [factsP, cellsP, roomP, foots_cons, foots_nil, foots_append, foot_pt, ptb, ptb_mapA, foot_mapA, factsP_mapA, foot_bun, List.append_nil, List.nil_append, List.cons_append, List.nodup_cons, List.nodup_nil, List.mem_cons, List.not_mem_nil, List.mem_singleton, List.forall_mem_cons, not_or, not_false_eq_true, and_true, true_and, or_false, false_or, forall_eq_or_imp, forall_eq, implies_true, Nat.zero_add, Nat.reduceAdd, and_assoc, ptb_propA, factsP_propA, ptb_learnA, factsP_learnA] at cs
  go_wp2_with fail
  first | apply Mem.atCall | apply Mem.atCode | apply Mem.atList
  case h => repeat' (first | (with_reducible exact O) | (with_reducible apply Mem.drew) | (with_reducible apply Mem.drewN) | (with_reducible apply Mem.ext) | (with_reducible apply Mem.alloc) | (with_reducible apply Mem.setCell) | (simp only [ptb, ptb_upd, foots_cons, List.mem_cons, World.size_alloc, size_ext, World.size_setCell, true_or, or_true, eq_self_iff_true]))
  case' k =>
    intro w5 O'
    (try clear O)
    have O := O'
    clear O'
    (first | simp only [sel, rst, List.cons_append, List.nil_append, World.size_alloc, size_ext, World.size_setCell, size_setMap, World.size_drew, size_drewN, upd, List.set_cons_zero, List.set_cons_succ, if_true, if_false, reduceIte, not_false_eq_true, ne_lt0, ne_lt1, ne_lt2, ne_lt3, ne_lt4, cs] at O | simp only [sel, rst, List.cons_append, List.nil_append, World.size_alloc, size_ext, World.size_setCell, size_setMap, World.size_drew, size_drewN, upd, List.set_cons_zero, List.set_cons_succ, if_true, if_false, reduceIte, not_false_eq_true, ne_lt0, ne_lt1, ne_lt2, ne_lt3, ne_lt4] at O | skip)
    (try clear cs)
    (try clear v1)
    (try clear v2)
    (try clear v3)
  refine (alive11 _).mono ?_
  rintro e w6 ⟨rfl, o⟩
  replace O := O.callp [] o
  clear o
  simp only [put, List.cons_append, List.nil_append] at O
  have cs := O.facts
  simp only [factsP, cellsP, roomP, foots_cons, foots_nil, foots_append, foot_pt, ptb, ptb_mapA, foot_mapA, factsP_mapA, foot_bun, List.append_nil, List.nil_append, List.cons_append, List.nodup_cons, List.nodup_nil, List.mem_cons, List.not_mem_nil, List.mem_singleton, List.forall_mem_cons, not_or, not_false_eq_true, and_true, true_and, or_false, false_or, forall_eq_or_imp, forall_eq, implies_true, Nat.zero_add, Nat.reduceAdd, and_assoc, ptb_propA, factsP_propA, ptb_learnA, factsP_learnA] at cs
  go_wp2_with fail
  clear PK hw cs
  go_loopw [7, 8, 9] (fun s7 s8 s9 wr => ∃ (k : Nat) (s : Learn11), k ≤ l.length ∧ k ≤ 200 ∧ s7 = .string s.chosen ∧ s8 = .bool s.is ∧ s9 = .int .i64 k ∧
    Mem w [] wr [learnA (w3.heap.size + 1) w3.heap.size s] ∧ Hid (Heard n (l.take k) s)) (fun _ _ s9 _ => l.length - (intOf s9).toNat)
  case atStart => exact ⟨0, _, by omega, by omega, rfl, rfl, rfl, O, Lib.hid (Heard.zero n)⟩
  case round =>
    clear O
    obtain ⟨k, s, hk, hk200, rfl, rfl, rfl, O, HA⟩ := hrel
    by_cases hlt : k < l.length ∧ k < 200
    case neg =>
      have hcase : (k < l.length ∧ ¬ k < 200) ∨ ¬ k < l.length := by omega
      rcases hcase with ⟨h1, h2⟩ | h1
      all_goals
        have cs := O.facts
        simp only [factsP, cellsP, roomP, foots_cons, foots_nil, foots_append, foot_pt, ptb, ptb_mapA, foot_mapA, factsP_mapA, foot_bun, List.append_nil, List.nil_append, List.cons_append, List.nodup_cons, List.nodup_nil, List.mem_cons, List.not_mem_nil, List.mem_singleton, List.forall_mem_cons, not_or, not_false_eq_true, and_true, true_and, or_false, false_or, forall_eq_or_imp, forall_eq, implies_true, Nat.zero_add, Nat.reduceAdd, and_assoc, ptb_propA, factsP_propA, ptb_learnA, factsP_learnA] at cs
        go_wp2_with fail
        go_ret
        exact ⟨rfl, O.fr.below rfl⟩
    case pos =>
      obtain ⟨hlt, h200⟩ := hlt
      obtain ⟨b, off, rfl, hbb, hq⟩ := HC.out k _ (List.getElem?_eq_getElem hlt)
      have hoo := HO.out _ (List.getElem_mem hlt)
      have htk : l.take (k + 1) = l.take k ++ [l[k]] := by rw [List.take_succ_eq_append_getElem hlt]
      have HTK := Lib.hid htk
      generalize l[k] = o at *
      have V := Lib.hid (fun W (h : Fr [] w W) => arg_view hbb hq h)
      have hsn := HA.out.n_
      have hsm := HA.out.small hn1 hn9
      have HS := HA.out.step hn1
      obtain ⟨ok, of, ord, ⟨obr, obn⟩, oow, ⟨oai, ⟨oar, oan⟩, oav⟩, ov⟩ := o
      have HOO := Lib.hid hoo
      clear hoo hq htk
      simp only [Op11.cells, cellsQ, Nat.add_zero, Nat.reduceAdd, and_true, Nat.zero_add] at V
      skip
      have PK := Lib.hid (fun W => law_pick of n W HOO.out.1 hn1 (by omega))
      have hpr := pick11_range (c := of) (n := n) hn1
      obtain ⟨hpr0, hpr1⟩ := hpr
      obtain ⟨j, hj⟩ := Int.eq_ofNat_of_zero_le hpr0
      rw [hj] at PK hpr0 hpr1
      have HJ := Lib.hid hj
      clear hj
      have hj9 : j < 9 := by omega
      obtain ⟨rv, ri, s2, hR⟩ : ∃ rv ri s2, (s.is = true ∧ rv = .empty ∧ ri = false ∧ s2 = s) ∨ (s.is = false ∧ (rv, ri, s2) = accepted11 s j ⟨obr, obn⟩ ov) := by
        cases hi : s.is
        · exact ⟨_, _, _, .inr ⟨rfl, rfl⟩⟩
        · exact ⟨_, _, _, .inl ⟨rfl, rfl, rfl, rfl⟩⟩
      have AC : Hid (∀ W, Pre W [learnA (w3.heap.size + 1) w3.heap.size s] → Calls Try.prog 15 #[.pointer (some ⟨w3.heap.size + 1, 0, none⟩), .int .i64 j, (⟨obr, obn⟩ : Ballot).val, .string ov] W (fun e w' => e = .returned (.tuple #[.string rv, .bool ri]) ∧ Mem W (foots [learnA (w3.heap.size + 1) w3.heap.size s]) w' [learnA (w3.heap.size + 1) w3.heap.size s2])) := Lib.hid (by
        intro W h
        rcases hR with ⟨h1, rfl, rfl, rfl⟩ | ⟨h1, h2⟩
        · refine (lA_Accepted_no W _ _ s2 j ⟨obr, obn⟩ ov h (.inl h1)).mono ?_
          rintro e w' ⟨he, hm⟩
          exact ⟨he, by have := h.call [] hm; simpa [Tk.sel, rst] using this⟩
        · have := lA_Accepted_yes W _ _ s j ⟨obr, obn⟩ ov h h1 (by omega) (by omega) (by omega) hsm
          rw [← h2] at this
          exact this)
      have hres : (s.is = true ∧ ri = false ∧ s2 = s) ∨ (s.is = false ∧ ri = s2.is ∧ (ri = false ∨ (ri = true ∧ rv = ov ∧ s2.chosen = ov))) := by
        rcases hR with ⟨h1, rfl, rfl, rfl⟩ | ⟨h1, h2⟩
        · exact .inl ⟨h1, rfl, rfl⟩
        · have := HS h1 ⟨ok, of, ord, ⟨obr, obn⟩, oow, ⟨oai, ⟨oar, oan⟩, oav⟩, ov⟩ (rv, ri, s2) (by rw [HJ.out]; exact h2)
          simp only at this
          refine .inr ⟨h1, this.2.1.symm, ?_⟩
          cases ri
          · exact .inl rfl
          · exact .inr ⟨rfl, (this.2.2 rfl).1, (this.2.2 rfl).2.1⟩
      have HN : Hid (Heard n (l.take (k + 1)) s2 ∧ (ri = true → ∀ by_ : List Bool, (∀ o' ∈ l.take (k + 1), o'.v.toList = ov.toList → by_.getD (pick11 o'.from_ n).toNat false = true) → n < 2 * (marks by_ n.toNat : Int))) := Lib.hid (by
        rw [HTK.out]
        rcases hR with ⟨h1, rfl, rfl, rfl⟩ | ⟨h1, h2⟩
        · exact ⟨HA.out.more _, fun h => by simp at h⟩
        · have := HS h1 ⟨ok, of, ord, ⟨obr, obn⟩, oow, ⟨oai, ⟨oar, oan⟩, oav⟩, ov⟩ (rv, ri, s2) (by rw [HJ.out]; exact h2)
          exact ⟨this.1, fun h => (this.2.2 h).2.2⟩)
      have HRES := Lib.hid hres
      have HSM := Lib.hid hsm
      clear hres HS hsm hR hsn
      simp only [Ballot.val] at AC
      have cs := O.facts
      simp only [factsP, cellsP, roomP, foots_cons, foots_nil, foots_append, foot_pt, ptb, ptb_mapA, foot_mapA, factsP_mapA, foot_bun, List.append_nil, List.nil_append, List.cons_append, List.nodup_cons, List.nodup_nil, List.mem_cons, List.not_mem_nil, List.mem_singleton, List.forall_mem_cons, not_or, not_false_eq_true, and_true, true_and, or_false, false_or, forall_eq_or_imp, forall_eq, implies_true, Nat.zero_add, Nat.reduceAdd, and_assoc, ptb_propA, factsP_propA, ptb_learnA, factsP_learnA] at cs
      have v1 := V.out _ O.fr
      simp only [roomP, and_assoc] at v1
      go_wp2_with fail
      first | apply Mem.atCall | apply Mem.atCode | apply Mem.atList
      case h => repeat' (first | (with_reducible exact O) | (with_reducible apply Mem.drew) | (with_reducible apply Mem.drewN) | (with_reducible apply Mem.ext) | (with_reducible apply Mem.alloc) | (with_reducible apply Mem.setCell) | (simp only [ptb, ptb_upd, foots_cons, List.mem_cons, World.size_alloc, size_ext, World.size_setCell, true_or, or_true, eq_self_iff_true]))
      case' k =>
        intro x1 O'
        (try clear O)
        have O := O'
        clear O'
        (first | simp only [sel, rst, List.cons_append, List.nil_append, World.size_alloc, size_ext, World.size_setCell, size_setMap, World.size_drew, size_drewN, upd, List.set_cons_zero, List.set_cons_succ, if_true, if_false, reduceIte, not_false_eq_true, ne_lt0, ne_lt1, ne_lt2, ne_lt3, ne_lt4, cs] at O | simp only [sel, rst, List.cons_append, List.nil_append, World.size_alloc, size_ext, World.size_setCell, size_setMap, World.size_drew, size_drewN, upd, List.set_cons_zero, List.set_cons_succ, if_true, if_false, reduceIte, not_false_eq_true, ne_lt0, ne_lt1, ne_lt2, ne_lt3, ne_lt4] at O | skip)
        (try clear cs)
        (try clear v1)
        (try clear v2)
        (try clear v3)
      go_cut [11, 12] (fun s11 s12 wc => s11 = .string rv ∧ s12 = .bool ri ∧ Mem w [] wc [.pt wr.heap.size [.int .i64 ok, .int .i64 of, .int .u32 ord, .int .u32 obr, .int .u8 obn, .bool oow, .bool oai, .int .u32 oar, .int .u8 oan, .string oav, .string ov] 48, learnA (w3.heap.size + 1) w3.heap.size s2])
      case first =>
        apply region_held_mem [true] (by kernel_rfl)
        case O => repeat' (first | (with_reducible exact O) | (with_reducible apply Mem.drew) | (with_reducible apply Mem.drewN) | (with_reducible apply Mem.ext) | (with_reducible apply Mem.alloc) | (with_reducible apply Mem.setCell) | (simp only [ptb, ptb_upd, foots_cons, List.mem_cons, World.size_alloc, size_ext, World.size_setCell, true_or, or_true, eq_self_iff_true]))
        case' h =>
          intro wr1 O'
          (try clear O)
          have O := O'
          clear O'
          (first | simp only [sel, rst, List.cons_append, List.nil_append, World.size_alloc, size_ext, World.size_setCell, size_setMap, World.size_drew, size_drewN, upd, List.set_cons_zero, List.set_cons_succ, if_true, if_false, reduceIte, not_false_eq_true, ne_lt0, ne_lt1, ne_lt2, ne_lt3, ne_lt4, cs] at O | simp only [sel, rst, List.cons_append, List.nil_append, World.size_alloc, size_ext, World.size_setCell, size_setMap, World.size_drew, size_drewN, upd, List.set_cons_zero, List.set_cons_succ, if_true, if_false, reduceIte, not_false_eq_true, ne_lt0, ne_lt1, ne_lt2, ne_lt3, ne_lt4] at O | skip)
          (try clear cs)
          (try clear v1)
          (try clear v2)
          (try clear v3)
        refine takeH (i := 0) (v := ?v1_1) rfl (by kernel_rfl) (by kernel_rfl) (by kernel_rfl) (fun _ _ _ h => h) (by rfl) ?y1_1 (O.sel [true]) ?r1_1
        case y1_1 =>
          intro WW hSw
          (go_simp) <;> (with_reducible rfl)
        case' r1_1 =>
          try simp only [Act.put, List.setIfInBounds_toArray, List.set_cons_zero, List.set_cons_succ]
        refine takeH (i := 1) (v := ?v1_2) rfl (by kernel_rfl) (by kernel_rfl) (by kernel_rfl) (fun _ _ _ h => h) (by rfl) ?y1_2 (O.sel [true]) ?r1_2
        case y1_2 =>
          intro WW hSw
          (go_simp) <;> (with_reducible rfl)
        case' r1_2 =>
          try simp only [Act.put, List.setIfInBounds_toArray, List.set_cons_zero, List.set_cons_succ]
        refine takeH (i := 2) (v := ?v1_3) rfl (by kernel_rfl) (by kernel_rfl) (by kernel_rfl) (fun _ _ _ h => h) (by rfl) ?y1_3 (O.sel [true]) ?r1_3
        case y1_3 =>
          intro WW hSw
          replace hSw : Mem _ _ WW _ := hSw
          have cs := hSw.facts
          simp only [sel, factsP, cellsP, roomP, foots_cons, foots_nil, foots_append, foot_pt, ptb, ptb_mapA, foot_mapA, factsP_mapA, foot_bun, List.append_nil, List.nil_append, List.cons_append, List.nodup_cons, List.nodup_nil, List.mem_cons, List.not_mem_nil, List.mem_singleton, List.forall_mem_cons, not_or, not_false_eq_true, and_true, true_and, or_false, false_or, forall_eq_or_imp, forall_eq, implies_true, Nat.zero_add, Nat.reduceAdd, and_assoc, ptb_propA, factsP_propA, ptb_learnA, factsP_learnA] at cs
          have v1 := V.out _ hSw.fr
          simp only [roomP, and_assoc] at v1
          (go_simp) <;> (with_reducible rfl)
        case' r1_3 =>
          try simp only [Act.put, List.setIfInBounds_toArray, List.set_cons_zero, List.set_cons_succ]
        refine takeH (i := 3) (v := ?v1_4) rfl (by kernel_rfl) (by kernel_rfl) (by kernel_rfl) (fun _ _ _ h => h) (by rfl) ?y1_4 (O.sel [true]) ?r1_4
        case y1_4 =>
          intro WW hSw
          (go_simp) <;> (with_reducible rfl)
        case' r1_4 =>
          try simp only [Act.put, List.setIfInBounds_toArray, List.set_cons_zero, List.set_cons_succ]
        refine takeH (i := 5) (v := ?v1_5) rfl (by kernel_rfl) (by kernel_rfl) (by kernel_rfl) (fun _ _ _ h => h) (by rfl) ?y1_5 (O.sel [true]) ?r1_5
        case y1_5 =>
          intro WW hSw
          (go_simp) <;> (with_reducible rfl)
        case' r1_5 =>
          try simp only [Act.put, List.setIfInBounds_toArray, List.set_cons_zero, List.set_cons_succ]
        refine takeH (i := 6) (v := ?v1_6) rfl (by kernel_rfl) (by kernel_rfl) (by kernel_rfl) (fun _ _ _ h => h) (by rfl) ?y1_6 (O.sel [true]) ?r1_6
        case y1_6 =>
          intro WW hSw
          replace hSw : Mem _ _ WW _ := hSw
          have cs := hSw.facts
          simp only [sel, factsP, cellsP, roomP, foots_cons, foots_nil, foots_append, foot_pt, ptb, ptb_mapA, foot_mapA, factsP_mapA, foot_bun, List.append_nil, List.nil_append, List.cons_append, List.nodup_cons, List.nodup_nil, List.mem_cons, List.not_mem_nil, List.mem_singleton, List.forall_mem_cons, not_or, not_false_eq_true, and_true, true_and, or_false, false_or, forall_eq_or_imp, forall_eq, implies_true, Nat.zero_add, Nat.reduceAdd, and_assoc, ptb_propA, factsP_propA, ptb_learnA, factsP_learnA] at cs
          have v1 := V.out _ hSw.fr
          simp only [roomP, and_assoc] at v1
          (go_simp) <;> (with_reducible rfl)
        case' r1_6 =>
          try simp only [Act.put, List.setIfInBounds_toArray, List.set_cons_zero, List.set_cons_succ]
        refine takeH (i := 7) (v := ?v1_7) rfl (by kernel_rfl) (by kernel_rfl) (by kernel_rfl) (fun _ _ _ h => h) (by rfl) ?y1_7 (O.sel [true]) ?r1_7
        case y1_7 =>
          intro WW hSw
          (go_simp) <;> (with_reducible rfl)
        case' r1_7 =>
          try simp only [Act.put, List.setIfInBounds_toArray, List.set_cons_zero, List.set_cons_succ]
        refine takeH (i := 8) (v := ?v1_8) rfl (by kernel_rfl) (by kernel_rfl) (by kernel_rfl) (fun _ _ _ h => h) (by rfl) ?y1_8 (O.sel [true]) ?r1_8
        case y1_8 =>
          intro WW hSw
          replace hSw : Mem _ _ WW _ := hSw
          have cs := hSw.facts
          simp only [sel, factsP, cellsP, roomP, foots_cons, foots_nil, foots_append, foot_pt, ptb, ptb_mapA, foot_mapA, factsP_mapA, foot_bun, List.append_nil, List.nil_append, List.cons_append, List.nodup_cons, List.nodup_nil, List.mem_cons, List.not_mem_nil, List.mem_singleton, List.forall_mem_cons, not_or, not_false_eq_true, and_true, true_and, or_false, false_or, forall_eq_or_imp, forall_eq, implies_true, Nat.zero_add, Nat.reduceAdd, and_assoc, ptb_propA, factsP_propA, ptb_learnA, factsP_learnA] at cs
          have v1 := V.out _ hSw.fr
          simp only [roomP, and_assoc] at v1
          (go_simp) <;> (with_reducible rfl)
        case' r1_8 =>
          try simp only [Act.put, List.setIfInBounds_toArray, List.set_cons_zero, List.set_cons_succ]
        refine wpAnyH_ready (rs := [4]) (by kernel_rfl) (by simp) ?_
        refine consH rfl (fun K hK => ?_) AllReadyH.nil
        have cs := O.facts
        simp only [factsP, cellsP, roomP, foots_cons, foots_nil, foots_append, foot_pt, ptb, ptb_mapA, foot_mapA, factsP_mapA, foot_bun, List.append_nil, List.nil_append, List.cons_append, List.nodup_cons, List.nodup_nil, List.mem_cons, List.not_mem_nil, List.mem_singleton, List.forall_mem_cons, not_or, not_false_eq_true, and_true, true_and, or_false, false_or, forall_eq_or_imp, forall_eq, implies_true, Nat.zero_add, Nat.reduceAdd, and_assoc, ptb_propA, factsP_propA, ptb_learnA, factsP_learnA] at cs
        have v1 := V.out _ O.fr
        simp only [roomP, and_assoc] at v1
        go_simp
        apply Mem.atCall
        case h => repeat' (first | (with_reducible exact O) | (with_reducible apply Mem.drew) | (with_reducible apply Mem.drewN) | (with_reducible apply Mem.ext) | (with_reducible apply Mem.alloc) | (with_reducible apply Mem.setCell) | (simp only [ptb, ptb_upd, foots_cons, List.mem_cons, World.size_alloc, size_ext, World.size_setCell, true_or, or_true, eq_self_iff_true]))
        intro w1_9 O'
        (try clear O)
        have O := O'
        clear O'
        (first | simp only [sel, rst, List.cons_append, List.nil_append, World.size_alloc, size_ext, World.size_setCell, size_setMap, World.size_drew, size_drewN, upd, List.set_cons_zero, List.set_cons_succ, if_true, if_false, reduceIte, not_false_eq_true, ne_lt0, ne_lt1, ne_lt2, ne_lt3, ne_lt4, cs] at O | simp only [sel, rst, List.cons_append, List.nil_append, World.size_alloc, size_ext, World.size_setCell, size_setMap, World.size_drew, size_drewN, upd, List.set_cons_zero, List.set_cons_succ, if_true, if_false, reduceIte, not_false_eq_true, ne_lt0, ne_lt1, ne_lt2, ne_lt3, ne_lt4] at O | skip)
        (try clear cs)
        (try clear v1)
        (try clear v2)
        (try clear v3)
        refine (PK.out _).mono ?_
        rintro e w1_9' ⟨rfl, o⟩
        replace O := O.callp [] o
        clear o
        simp only [put, List.cons_append, List.nil_append] at O
        go_wp2_with fail
        refine hK.out _ _ (O.sel [true]) (fun _ => ?_)
        clear hK K
        refine wpAnyH_ready (rs := [9]) (by kernel_rfl) (by simp) ?_
        refine consH rfl (fun K hK => ?_) AllReadyH.nil
        have cs := O.facts
        simp only [factsP, cellsP, roomP, foots_cons, foots_nil, foots_append, foot_pt, ptb, ptb_mapA, foot_mapA, factsP_mapA, foot_bun, List.append_nil, List.nil_append, List.cons_append, List.nodup_cons, List.nodup_nil, List.mem_cons, List.not_mem_nil, List.mem_singleton, List.forall_mem_cons, not_or, not_false_eq_true, and_true, true_and, or_false, false_or, forall_eq_or_imp, forall_eq, implies_true, Nat.zero_add, Nat.reduceAdd, and_assoc, ptb_propA, factsP_propA, ptb_learnA, factsP_learnA] at cs
        have v1 := V.out _ O.fr
        simp only [roomP, and_assoc] at v1
        go_simp
        apply Mem.atCall
        case h => repeat' (first | (with_reducible exact O) | (with_reducible apply Mem.drew) | (with_reducible apply Mem.drewN) | (with_reducible apply Mem.ext) | (with_reducible apply Mem.alloc) | (with_reducible apply Mem.setCell) | (simp only [ptb, ptb_upd, foots_cons, List.mem_cons, World.size_alloc, size_ext, World.size_setCell, true_or, or_true, eq_self_iff_true]))
        intro w1_10 O'
        (try clear O)
        have O := O'
        clear O'
        (first | simp only [sel, rst, List.cons_append, List.nil_append, World.size_alloc, size_ext, World.size_setCell, size_setMap, World.size_drew, size_drewN, upd, List.set_cons_zero, List.set_cons_succ, if_true, if_false, reduceIte, not_false_eq_true, ne_lt0, ne_lt1, ne_lt2, ne_lt3, ne_lt4, cs] at O | simp only [sel, rst, List.cons_append, List.nil_append, World.size_alloc, size_ext, World.size_setCell, size_setMap, World.size_drew, size_drewN, upd, List.set_cons_zero, List.set_cons_succ, if_true, if_false, reduceIte, not_false_eq_true, ne_lt0, ne_lt1, ne_lt2, ne_lt3, ne_lt4] at O | skip)
        (try clear cs)
        (try clear v1)
        (try clear v2)
        (try clear v3)
        refine (AC.out _ (O.pre [false, true])).mono ?_
        rintro e w1_10' ⟨rfl, o⟩
        replace O := O.callp [false, true] o
        clear o
        simp only [put, List.cons_append, List.nil_append] at O
        go_wp2_with fail
        refine hK.out _ _ (O.sel [true]) (fun _ => ?_)
        clear hK K
        refine takeH (i := 10) (v := ?v1_11) rfl (by kernel_rfl) (by kernel_rfl) (by kernel_rfl) (fun _ _ _ h => h) (by rfl) ?y1_11 (O.sel [true]) ?r1_11
        case y1_11 =>
          intro WW hSw
          (go_simp) <;> (with_reducible rfl)
        case' r1_11 =>
          try simp only [Act.put, List.setIfInBounds_toArray, List.set_cons_zero, List.set_cons_succ]
        refine takeH (i := 11) (v := ?v1_12) rfl (by kernel_rfl) (by kernel_rfl) (by kernel_rfl) (fun _ _ _ h => h) (by rfl) ?y1_12 (O.sel [true]) ?r1_12
        case y1_12 =>
          intro WW hSw
          (go_simp) <;> (with_reducible rfl)
        case' r1_12 =>
          try simp only [Act.put, List.setIfInBounds_toArray, List.set_cons_zero, List.set_cons_succ]
        refine takeH (i := 12) (v := ?v1_13) rfl (by kernel_rfl) (by kernel_rfl) (by kernel_rfl) (fun _ _ _ h => h) (by rfl) ?y1_13 (O.sel [true]) ?r1_13
        case y1_13 =>
          intro WW hSw
          (go_simp) <;> (with_reducible rfl)
        case' r1_13 =>
          try simp only [Act.put, List.setIfInBounds_toArray, List.set_cons_zero, List.set_cons_succ]
        refine takeH (i := 13) (v := ?v1_14) rfl (by kernel_rfl) (by kernel_rfl) (by kernel_rfl) (fun _ _ _ h => h) (by rfl) ?y1_14 (O.sel [true]) ?r1_14
        case y1_14 =>
          intro WW hSw
          (go_simp) <;> (with_reducible rfl)
        case' r1_14 =>
          try simp only [Act.put, List.setIfInBounds_toArray, List.set_cons_zero, List.set_cons_succ]
        refine takeH (i := 14) (v := ?v1_15) rfl (by kernel_rfl) (by kernel_rfl) (by kernel_rfl) (fun _ _ _ h => h) (by rfl) ?y1_15 (O.sel [true]) ?r1_15
        case y1_15 =>
          intro WW hSw
          (go_simp) <;> (with_reducible rfl)
        case' r1_15 =>
          try simp only [Act.put, List.setIfInBounds_toArray, List.set_cons_zero, List.set_cons_succ]
        refine wpAnyH_done (by kernel_rfl) ?_ _
        go_wp2_with fail
        go_meet
        exact ⟨rfl, rfl, O⟩
      case rest =>
        clear O AC PK
        obtain ⟨rfl, rfl, O⟩ := hcut
        generalize wr.heap.size = ob at O ⊢
        skip
        have cs := O.facts
        simp only [factsP, cellsP, roomP, foots_cons, foots_nil, foots_append, foot_pt, ptb, ptb_mapA, foot_mapA, factsP_mapA, foot_bun, List.append_nil, List.nil_append, List.cons_append, List.nodup_cons, List.nodup_nil, List.mem_cons, List.not_mem_nil, List.mem_singleton, List.forall_mem_cons, not_or, not_false_eq_true, and_true, true_and, or_false, false_or, forall_eq_or_imp, forall_eq, implies_true, Nat.zero_add, Nat.reduceAdd, and_assoc, ptb_propA, factsP_propA, ptb_learnA, factsP_learnA] at cs
        go_wp2_with fail
        first | apply Mem.atCall | apply Mem.atCode | apply Mem.atList
        case h => repeat' (first | (with_reducible exact O) | (with_reducible apply Mem.drew) | (with_reducible apply Mem.drewN) | (with_reducible apply Mem.ext) | (with_reducible apply Mem.alloc) | (with_reducible apply Mem.setCell) | (simp only [ptb, ptb_upd, foots_cons, List.mem_cons, World.size_alloc, size_ext, World.size_setCell, true_or, or_true, eq_self_iff_true]))
        case' k =>
          intro x2 O'
          (try clear O)
          have O := O'
          clear O'
          (first | simp only [sel, rst, List.cons_append, List.nil_append, World.size_alloc, size_ext, World.size_setCell, size_setMap, World.size_drew, size_drewN, upd, List.set_cons_zero, List.set_cons_succ, if_true, if_false, reduceIte, not_false_eq_true, ne_lt0, ne_lt1, ne_lt2, ne_lt3, ne_lt4, cs] at O | simp only [sel, rst, List.cons_append, List.nil_append, World.size_alloc, size_ext, World.size_setCell, size_setMap, World.size_drew, size_drewN, upd, List.set_cons_zero, List.set_cons_succ, if_true, if_false, reduceIte, not_false_eq_true, ne_lt0, ne_lt1, ne_lt2, ne_lt3, ne_lt4] at O | skip)
          (try clear cs)
          (try clear v1)
          (try clear v2)
          (try clear v3)
        refine (lA_Chosen _ _ _ _ (O.pre [false, true])).mono ?_
        rintro e x3 ⟨rfl, o⟩
        replace O := O.callp [] o
        clear o
        simp only [put, List.cons_append, List.nil_append] at O
        rcases HRES.out with ⟨h1, rfl, rfl⟩ | ⟨h1, h2, h3⟩
        · rw [h1]
          clear HRES
          have h1' := Lib.hid h1
          clear h1
          have cs := O.facts
          simp only [factsP, cellsP, roomP, foots_cons, foots_nil, foots_append, foot_pt, ptb, ptb_mapA, foot_mapA, factsP_mapA, foot_bun, List.append_nil, List.nil_append, List.cons_append, List.nodup_cons, List.nodup_nil, List.mem_cons, List.not_mem_nil, List.mem_singleton, List.forall_mem_cons, not_or, not_false_eq_true, and_true, true_and, or_false, false_or, forall_eq_or_imp, forall_eq, implies_true, Nat.zero_add, Nat.reduceAdd, and_assoc, ptb_propA, factsP_propA, ptb_learnA, factsP_learnA] at cs
          go_wp2_with fail
          go_roundw
          case rel =>
            refine ⟨k + 1, s2, by omega, by omega, rfl, by rw [h1'.out], by go_num, ?_, Lib.hid HN.out.1⟩
            apply Mem.to [false, true]
            · repeat' (first | (with_reducible exact O) | (with_reducible apply Mem.drew) | (with_reducible apply Mem.drewN) | (with_reducible apply Mem.ext) | (with_reducible apply Mem.alloc) | (with_reducible apply Mem.setCell) | (simp only [ptb, ptb_upd, foots_cons, List.mem_cons, World.size_alloc, size_ext, World.size_setCell, true_or, or_true, eq_self_iff_true]))
            · first | with_reducible rfl | (simp only [sel, rst, List.cons_append, List.nil_append, World.size_alloc, size_ext, World.size_setCell, size_setMap, World.size_drew, size_drewN, upd, List.set_cons_zero, List.set_cons_succ, if_true, if_false, reduceIte, not_false_eq_true, ne_lt0, ne_lt1, ne_lt2, ne_lt3, ne_lt4, cs]; done) | (simp only [sel, rst, List.cons_append, List.nil_append, World.size_alloc, size_ext, World.size_setCell, size_setMap, World.size_drew, size_drewN, upd, List.set_cons_zero, List.set_cons_succ, if_true, if_false, reduceIte, not_false_eq_true, ne_lt0, ne_lt1, ne_lt2, ne_lt3, ne_lt4]; done) | (simp only [sel, rst, List.cons_append, List.nil_append, World.size_alloc, size_ext, World.size_setCell, size_setMap, World.size_drew, size_drewN, upd, List.set_cons_zero, List.set_cons_succ, if_true, if_false, reduceIte, not_false_eq_true, ne_lt0, ne_lt1, ne_lt2, ne_lt3, ne_lt4, cs]; rfl) | (simp only [sel, rst, List.cons_append, List.nil_append, World.size_alloc, size_ext, World.size_setCell, size_setMap, World.size_drew, size_drewN, upd, List.set_cons_zero, List.set_cons_succ, if_true, if_false, reduceIte, not_false_eq_true, ne_lt0, ne_lt1, ne_lt2, ne_lt3, ne_lt4]; rfl)
          case measure => simp [intOf]; omega
        · rcases h3 with rfl | ⟨rfl, hrv, h4⟩
          · rw [h1, ← h2]
            have h2' := Lib.hid h2
            clear h1 h2 HRES
            have cs := O.facts
            simp only [factsP, cellsP, roomP, foots_cons, foots_nil, foots_append, foot_pt, ptb, ptb_mapA, foot_mapA, factsP_mapA, foot_bun, List.append_nil, List.nil_append, List.cons_append, List.nodup_cons, List.nodup_nil, List.mem_cons, List.not_mem_nil, List.mem_singleton, List.forall_mem_cons, not_or, not_false_eq_true, and_true, true_and, or_false, false_or, forall_eq_or_imp, forall_eq, implies_true, Nat.zero_add, Nat.reduceAdd, and_assoc, ptb_propA, factsP_propA, ptb_learnA, factsP_learnA] at cs
            go_wp2_with fail
            go_roundw
            case rel =>
              refine ⟨k + 1, s2, by omega, by omega, rfl, by rw [← h2'.out], by go_num, ?_, Lib.hid HN.out.1⟩
              apply Mem.to [false, true]
              · repeat' (first | (with_reducible exact O) | (with_reducible apply Mem.drew) | (with_reducible apply Mem.drewN) | (with_reducible apply Mem.ext) | (with_reducible apply Mem.alloc) | (with_reducible apply Mem.setCell) | (simp only [ptb, ptb_upd, foots_cons, List.mem_cons, World.size_alloc, size_ext, World.size_setCell, true_or, or_true, eq_self_iff_true]))
              · first | with_reducible rfl | (simp only [sel, rst, List.cons_append, List.nil_append, World.size_alloc, size_ext, World.size_setCell, size_setMap, World.size_drew, size_drewN, upd, List.set_cons_zero, List.set_cons_succ, if_true, if_false, reduceIte, not_false_eq_true, ne_lt0, ne_lt1, ne_lt2, ne_lt3, ne_lt4, cs]; done) | (simp only [sel, rst, List.cons_append, List.nil_append, World.size_alloc, size_ext, World.size_setCell, size_setMap, World.size_drew, size_drewN, upd, List.set_cons_zero, List.set_cons_succ, if_true, if_false, reduceIte, not_false_eq_true, ne_lt0, ne_lt1, ne_lt2, ne_lt3, ne_lt4]; done) | (simp only [sel, rst, List.cons_append, List.nil_append, World.size_alloc, size_ext, World.size_setCell, size_setMap, World.size_drew, size_drewN, upd, List.set_cons_zero, List.set_cons_succ, if_true, if_false, reduceIte, not_false_eq_true, ne_lt0, ne_lt1, ne_lt2, ne_lt3, ne_lt4, cs]; rfl) | (simp only [sel, rst, List.cons_append, List.nil_append, World.size_alloc, size_ext, World.size_setCell, size_setMap, World.size_drew, size_drewN, upd, List.set_cons_zero, List.set_cons_succ, if_true, if_false, reduceIte, not_false_eq_true, ne_lt0, ne_lt1, ne_lt2, ne_lt3, ne_lt4]; rfl)
            case measure => simp [intOf]; omega
          · have hrv2 := hrv.symm
            subst hrv2
            rw [h1, ← h2, h4]
            have h2' := Lib.hid h2
            have h4' := Lib.hid h4
            clear h1 h2 h4 HRES
            have cs := O.facts
            simp only [factsP, cellsP, roomP, foots_cons, foots_nil, foots_append, foot_pt, ptb, ptb_mapA, foot_mapA, factsP_mapA, foot_bun, List.append_nil, List.nil_append, List.cons_append, List.nodup_cons, List.nodup_nil, List.mem_cons, List.not_mem_nil, List.mem_singleton, List.forall_mem_cons, not_or, not_false_eq_true, and_true, true_and, or_false, false_or, forall_eq_or_imp, forall_eq, implies_true, Nat.zero_add, Nat.reduceAdd, and_assoc, ptb_propA, factsP_propA, ptb_learnA, factsP_learnA] at cs
            go_wp2_with fail
            go_loopw [16] (fun s16 wr2 => ∃ (q : Nat) (by_ : List Bool), q ≤ k + 1 ∧ by_.length = 9 ∧ s16 = .int .i64 q ∧ Mem w [] wr2 [.pt x3.heap.size (by_.map Value.bool) 34, .pt ob [.int .i64 ok, .int .i64 of, .int .u32 ord, .int .u32 obr, .int .u8 obn, .bool oow, .bool oai, .int .u32 oar, .int .u8 oan, .string oav, .string ov] 48, learnA (w3.heap.size + 1) w3.heap.size s2] ∧ Hid (∀ (i : Nat) (o' : Op11), i < q → l[i]? = some o' → o'.v.toList = ov.toList → by_.getD (pick11 o'.from_ n).toNat false = true)) (fun s16 _ => k + 1 - (intOf s16).toNat)
            case atStart =>
              have O2 := O.alloc [.bool false, .bool false, .bool false, .bool false, .bool false, .bool false, .bool false, .bool false, .bool false] 34
              exact ⟨0, List.replicate 9 false, by omega, rfl, rfl, O2, Lib.hid (fun i o' h => by omega)⟩
            case round =>
              clear O
              obtain ⟨q, by_, hqk, hb9, rfl, O, HF⟩ := hrel
              by_cases hql : q < k + 1
              · have hql2 : q < l.length := by omega
                obtain ⟨b2, off2, hbo, hbb2, hq2⟩ := HC.out q _ (List.getElem?_eq_getElem hql2)
                injection hbo with hbo
                injection hbo with hbo1 hbo2
                subst hbo1 hbo2
                have hoo2 := HO.out _ (List.getElem_mem hql2)
                have V2 := Lib.hid (fun W (h : Fr [] w W) => arg_view hbb hq2 h)
                have hlq : l[q]? = some l[q] := List.getElem?_eq_getElem hql2
                have HLQ := Lib.hid hlq
                clear hlq hq2 hbb2
                generalize l[q] = o2 at *
                obtain ⟨ok2, of2, ord2, ⟨obr2, obn2⟩, oow2, ⟨oai2, ⟨oar2, oan2⟩, oav2⟩, ov2⟩ := o2
                have HOO2 := Lib.hid hoo2
                clear hoo2
                simp only [Op11.cells, cellsQ, Nat.add_zero, Nat.reduceAdd, and_true, Nat.zero_add] at V2
                skip
                by_cases hv : ov2.toList = ov.toList
                · have PK := Lib.hid (fun W => law_pick of2 n W HOO2.out.1 hn1 (by omega))
                  have hpr := pick11_range (c := of2) (n := n) hn1
                  obtain ⟨hpr0, hpr1⟩ := hpr
                  obtain ⟨j2, hj⟩ := Int.eq_ofNat_of_zero_le hpr0
                  rw [hj] at PK hpr0 hpr1
                  have HJ2 := Lib.hid hj
                  clear hj
                  have hj29 : j2 < 9 := by omega
                  have SJ : Hid ((by_.map Value.bool)[j2]? = some (.bool (by_.getD j2 false))) := Lib.hid (by
                    rw [List.getElem?_map, List.getD_eq_getElem?_getD, List.getElem?_eq_getElem (by omega)]
                    rfl)
                  have cs := O.facts
                  simp only [factsP, cellsP, roomP, foots_cons, foots_nil, foots_append, foot_pt, ptb, ptb_mapA, foot_mapA, factsP_mapA, foot_bun, List.append_nil, List.nil_append, List.cons_append, List.nodup_cons, List.nodup_nil, List.mem_cons, List.not_mem_nil, List.mem_singleton, List.forall_mem_cons, not_or, not_false_eq_true, and_true, true_and, or_false, false_or, forall_eq_or_imp, forall_eq, implies_true, Nat.zero_add, Nat.reduceAdd, and_assoc, ptb_propA, factsP_propA, ptb_learnA, factsP_learnA] at cs
                  have v1 := V2.out _ O.fr
                  simp only [roomP, and_assoc] at v1
                  go_wp2_with fail
                  first | apply Mem.atCall | apply Mem.atCode | apply Mem.atList
                  case h => repeat' (first | (with_reducible exact O) | (with_reducible apply Mem.drew) | (with_reducible apply Mem.drewN) | (with_reducible apply Mem.ext) | (with_reducible apply Mem.alloc) | (with_reducible apply Mem.setCell) | (simp only [ptb, ptb_upd, foots_cons, List.mem_cons, World.size_alloc, size_ext, World.size_setCell, true_or, or_true, eq_self_iff_true]))
                  case' k =>
                    intro y1 O'
                    (try clear O)
                    have O := O'
                    clear O'
                    (first | simp only [sel, rst, List.cons_append, List.nil_append, World.size_alloc, size_ext, World.size_setCell, size_setMap, World.size_drew, size_drewN, upd, List.set_cons_zero, List.set_cons_succ, if_true, if_false, reduceIte, not_false_eq_true, ne_lt0, ne_lt1, ne_lt2, ne_lt3, ne_lt4, cs] at O | simp only [sel, rst, List.cons_append, List.nil_append, World.size_alloc, size_ext, World.size_setCell, size_setMap, World.size_drew, size_drewN, upd, List.set_cons_zero, List.set_cons_succ, if_true, if_false, reduceIte, not_false_eq_true, ne_lt0, ne_lt1, ne_lt2, ne_lt3, ne_lt4] at O | skip)
                    (try clear cs)
                    (try clear v1)
                    (try clear v2)
                    (try clear v3)
                  refine (PK.out _).mono ?_
                  rintro e y2 ⟨rfl, o⟩
                  replace O := O.callp [] o
                  clear o
                  simp only [put, List.cons_append, List.nil_append] at O
                  have hj29i : (j2 : Int) < 9 := by omega
                  clear hv
                  skip
                  have cs := O.facts
                  simp only [factsP, cellsP, roomP, foots_cons, foots_nil, foots_append, foot_pt, ptb, ptb_mapA, foot_mapA, factsP_mapA, foot_bun, List.append_nil, List.nil_append, List.cons_append, List.nodup_cons, List.nodup_nil, List.mem_cons, List.not_mem_nil, List.mem_singleton, List.forall_mem_cons, not_or, not_false_eq_true, and_true, true_and, or_false, false_or, forall_eq_or_imp, forall_eq, implies_true, Nat.zero_add, Nat.reduceAdd, and_assoc, ptb_propA, factsP_propA, ptb_learnA, factsP_learnA] at cs
                  have v1 := V2.out _ O.fr
                  simp only [roomP, and_assoc] at v1
                  have v2 := (Mem.ptCell O (b := x3.heap.size) (cs := by_.map Value.bool) (t := 34) (by simp) SJ.out)
                  try simp only [cellsQ, roomP, and_assoc, and_true, true_and, Nat.add_zero, Nat.zero_add, Nat.reduceAdd, factsP, cellsP, roomP, foots_cons, foots_nil, foots_append, foot_pt, ptb, ptb_mapA, foot_mapA, factsP_mapA, foot_bun, List.append_nil, List.nil_append, List.cons_append, List.nodup_cons, List.nodup_nil, List.mem_cons, List.not_mem_nil, List.mem_singleton, List.forall_mem_cons, not_or, not_false_eq_true, and_true, true_and, or_false, false_or, forall_eq_or_imp, forall_eq, implies_true, Nat.zero_add, Nat.reduceAdd, and_assoc, ptb_propA, factsP_propA, ptb_learnA, factsP_learnA] at v2
                  go_upto_region 19 with fail
                  first | apply Mem.atCall | apply Mem.atCode | apply Mem.atList
                  case h => repeat' (first | (with_reducible exact O) | (with_reducible apply Mem.drew) | (with_reducible apply Mem.drewN) | (with_reducible apply Mem.ext) | (with_reducible apply Mem.alloc) | (with_reducible apply Mem.setCell) | (simp only [ptb, ptb_upd, foots_cons, List.mem_cons, World.size_alloc, size_ext, World.size_setCell, true_or, or_true, eq_self_iff_true]))
                  case' k =>
                    intro y3 O'
                    (try clear O)
                    have O := O'
                    clear O'
                    (first | simp only [sel, rst, List.cons_append, List.nil_append, World.size_alloc, size_ext, World.size_setCell, size_setMap, World.size_drew, size_drewN, upd, List.set_cons_zero, List.set_cons_succ, if_true, if_false, reduceIte, not_false_eq_true, ne_lt0, ne_lt1, ne_lt2, ne_lt3, ne_lt4, cs] at O | simp only [sel, rst, List.cons_append, List.nil_append, World.size_alloc, size_ext, World.size_setCell, size_setMap, World.size_drew, size_drewN, upd, List.set_cons_zero, List.set_cons_succ, if_true, if_false, reduceIte, not_false_eq_true, ne_lt0, ne_lt1, ne_lt2, ne_lt3, ne_lt4] at O | skip)
                    (try clear cs)
                    (try clear v1)
                    (try clear v2)
                    (try clear v3)
                  obtain ⟨by2, hs2⟩ : ∃ x, x = by_.set j2 true := ⟨_, rfl⟩
                  have hs3 : (by_.map Value.bool).set j2 (.bool true) = by2.map Value.bool := by rw [hs2, List.map_set]
                  rw [hs3] at O
                  have HS2 := Lib.hid hs2
                  clear hs2 hs3 SJ
                  skip
                  have cs := O.facts
                  simp only [factsP, cellsP, roomP, foots_cons, foots_nil, foots_append, foot_pt, ptb, ptb_mapA, foot_mapA, factsP_mapA, foot_bun, List.append_nil, List.nil_append, List.cons_append, List.nodup_cons, List.nodup_nil, List.mem_cons, List.not_mem_nil, List.mem_singleton, List.forall_mem_cons, not_or, not_false_eq_true, and_true, true_and, or_false, false_or, forall_eq_or_imp, forall_eq, implies_true, Nat.zero_add, Nat.reduceAdd, and_assoc, ptb_propA, factsP_propA, ptb_learnA, factsP_learnA] at cs
                  go_wp2_with fail
                  go_roundw
                  case rel =>
                    refine ⟨q + 1, by2, by omega, by rw [HS2.out]; simpa using hb9, by go_num, O, Lib.hid (fun i o' hi ho he => ?_)⟩
                    rw [HS2.out, List.getD_eq_getElem?_getD, List.getElem?_set]
                    by_cases hiq : i < q
                    · have := HF.out i o' hiq ho he
                      split
                      · rw [if_pos (by omega)]; rfl
                      · rw [List.getD_eq_getElem?_getD] at this; exact this
                    · obtain rfl : i = q := by omega
                      rw [HLQ.out] at ho
                      injection ho with ho
                      subst ho
                      have e2 : (pick11 of2 n).toNat = j2 := by rw [HJ2.out]; rfl
                      simp only [e2, if_true]
                      rw [if_pos (by omega)]; rfl
                  case measure => simp [intOf]; omega
                · skip
                  have hv2 : (ov2.toList == ov.toList) = false := beq_eq_false_iff_ne.2 hv
                  have HV := Lib.hid hv
                  clear hv
                  have cs := O.facts
                  simp only [factsP, cellsP, roomP, foots_cons, foots_nil, foots_append, foot_pt, ptb, ptb_mapA, foot_mapA, factsP_mapA, foot_bun, List.append_nil, List.nil_append, List.cons_append, List.nodup_cons, List.nodup_nil, List.mem_cons, List.not_mem_nil, List.mem_singleton, List.forall_mem_cons, not_or, not_false_eq_true, and_true, true_and, or_false, false_or, forall_eq_or_imp, forall_eq, implies_true, Nat.zero_add, Nat.reduceAdd, and_assoc, ptb_propA, factsP_propA, ptb_learnA, factsP_learnA] at cs
                  have v1 := V2.out _ O.fr
                  simp only [roomP, and_assoc] at v1
                  go_wp2_with fail
                  go_roundw
                  case rel =>
                    refine ⟨q + 1, by_, by omega, hb9, by go_num, O, Lib.hid (fun i o' hi ho he => ?_)⟩
                    by_cases hiq : i < q
                    · exact HF.out i o' hiq ho he
                    · obtain rfl : i = q := by omega
                      rw [HLQ.out] at ho
                      injection ho with ho
                      subst ho
                      exact absurd he HV.out
                  case measure => simp [intOf]; omega
              · obtain rfl : q = k + 1 := by omega
                have hm : n < 2 * (marks by_ n.toNat : Int) := HN.out.2 (by simp) by_ (fun o' ho he => by
                  obtain ⟨i, hi, hio⟩ := List.getElem_of_mem ho
                  have hi2 : i < k + 1 := by have := List.length_take_le (k + 1) l; omega
                  rw [List.getElem_take] at hio
                  exact HF.out i o' hi2 (by rw [← hio]; exact List.getElem?_eq_getElem _) he)
                clear HF
                skip
                have cs := O.facts
                simp only [factsP, cellsP, roomP, foots_cons, foots_nil, foots_append, foot_pt, ptb, ptb_mapA, foot_mapA, factsP_mapA, foot_bun, List.append_nil, List.nil_append, List.cons_append, List.nodup_cons, List.nodup_nil, List.mem_cons, List.not_mem_nil, List.mem_singleton, List.forall_mem_cons, not_or, not_false_eq_true, and_true, true_and, or_false, false_or, forall_eq_or_imp, forall_eq, implies_true, Nat.zero_add, Nat.reduceAdd, and_assoc, ptb_propA, factsP_propA, ptb_learnA, factsP_learnA] at cs
                go_wp2_with fail
                go_loopw [17, 18] (fun s17 s18 wr2 => ∃ (q : Nat), (q : Int) ≤ n ∧ s18 = .int .i64 q ∧ s17 = .int .i64 (marks by_ q) ∧ Mem w [] wr2 [.pt x3.heap.size (by_.map Value.bool) 34, .pt ob [.int .i64 ok, .int .i64 of, .int .u32 ord, .int .u32 obr, .int .u8 obn, .bool oow, .bool oai, .int .u32 oar, .int .u8 oan, .string oav, .string ov] 48, learnA (w3.heap.size + 1) w3.heap.size s2]) (fun _ s18 _ => 9 - (intOf s18).toNat)
                case atStart => exact ⟨0, by omega, rfl, rfl, O⟩
                case round =>
                  clear O
                  obtain ⟨q, hqn, rfl, rfl, O⟩ := hrel
                  have hml := marks_le by_ q
                  by_cases hqn2 : (q : Int) < n
                  · have hms := marks_succ by_ q
                    have SJ : Hid ((by_.map Value.bool)[q]? = some (.bool (by_.getD q false))) := Lib.hid (by
                      rw [List.getElem?_map, List.getD_eq_getElem?_getD, List.getElem?_eq_getElem (by omega)]
                      rfl)
                    have hq9 : q < 9 := by omega
                    have hq9i : (q : Int) < 9 := by omega
                    generalize by_.getD q false = bq at hms SJ
                    have HMS := Lib.hid hms
                    clear hms
                    skip
                    cases bq
                    all_goals
                      have cs := O.facts
                      simp only [factsP, cellsP, roomP, foots_cons, foots_nil, foots_append, foot_pt, ptb, ptb_mapA, foot_mapA, factsP_mapA, foot_bun, List.append_nil, List.nil_append, List.cons_append, List.nodup_cons, List.nodup_nil, List.mem_cons, List.not_mem_nil, List.mem_singleton, List.forall_mem_cons, not_or, not_false_eq_true, and_true, true_and, or_false, false_or, forall_eq_or_imp, forall_eq, implies_true, Nat.zero_add, Nat.reduceAdd, and_assoc, ptb_propA, factsP_propA, ptb_learnA, factsP_learnA] at cs
                      have v1 := (Mem.ptCell O (b := x3.heap.size) (cs := by_.map Value.bool) (t := 34) (by simp) SJ.out)
                      try simp only [cellsQ, roomP, and_assoc, and_true, true_and, Nat.add_zero, Nat.zero_add, Nat.reduceAdd, factsP, cellsP, roomP, foots_cons, foots_nil, foots_append, foot_pt, ptb, ptb_mapA, foot_mapA, factsP_mapA, foot_bun, List.append_nil, List.nil_append, List.cons_append, List.nodup_cons, List.nodup_nil, List.mem_cons, List.not_mem_nil, List.mem_singleton, List.forall_mem_cons, not_or, not_false_eq_true, and_true, true_and, or_false, false_or, forall_eq_or_imp, forall_eq, implies_true, Nat.zero_add, Nat.reduceAdd, and_assoc, ptb_propA, factsP_propA, ptb_learnA, factsP_learnA] at v1
                      go_wp2_with fail
                      go_roundw
                      case rel => exact ⟨q + 1, by omega, by go_num, by rw [HMS.out]; simp, O⟩
                      case measure => simp [intOf]; omega
                  · obtain ⟨nn, rfl⟩ := Int.eq_ofNat_of_zero_le (show 0 ≤ n by omega)
                    obtain rfl : q = nn := by omega
                    simp only [Int.toNat_natCast] at hm
                    skip
                    have cs := O.facts
                    simp only [factsP, cellsP, roomP, foots_cons, foots_nil, foots_append, foot_pt, ptb, ptb_mapA, foot_mapA, factsP_mapA, foot_bun, List.append_nil, List.nil_append, List.cons_append, List.nodup_cons, List.nodup_nil, List.mem_cons, List.not_mem_nil, List.mem_singleton, List.forall_mem_cons, not_or, not_false_eq_true, and_true, true_and, or_false, false_or, forall_eq_or_imp, forall_eq, implies_true, Nat.zero_add, Nat.reduceAdd, and_assoc, ptb_propA, factsP_propA, ptb_learnA, factsP_learnA] at cs
                    go_wp2_with fail
                    go_roundw
                    case rel =>
                      refine ⟨k + 1, s2, by omega, by omega, by rw [h4'.out], by rw [← h2'.out], by go_num, ?_, Lib.hid HN.out.1⟩
                      apply Mem.to [false, false, true]
                      · repeat' (first | (with_reducible exact O) | (with_reducible apply Mem.drew) | (with_reducible apply Mem.drewN) | (with_reducible apply Mem.ext) | (with_reducible apply Mem.alloc) | (with_reducible apply Mem.setCell) | (simp only [ptb, ptb_upd, foots_cons, List.mem_cons, World.size_alloc, size_ext, World.size_setCell, true_or, or_true, eq_self_iff_true]))
                      · first | with_reducible rfl | (simp only [sel, rst, List.cons_append, List.nil_append, World.size_alloc, size_ext, World.size_setCell, size_setMap, World.size_drew, size_drewN, upd, List.set_cons_zero, List.set_cons_succ, if_true, if_false, reduceIte, not_false_eq_true, ne_lt0, ne_lt1, ne_lt2, ne_lt3, ne_lt4, cs]; done) | (simp only [sel, rst, List.cons_append, List.nil_append, World.size_alloc, size_ext, World.size_setCell, size_setMap, World.size_drew, size_drewN, upd, List.set_cons_zero, List.set_cons_succ, if_true, if_false, reduceIte, not_false_eq_true, ne_lt0, ne_lt1, ne_lt2, ne_lt3, ne_lt4]; done) | (simp only [sel, rst, List.cons_append, List.nil_append, World.size_alloc, size_ext, World.size_setCell, size_setMap, World.size_drew, size_drewN, upd, List.set_cons_zero, List.set_cons_succ, if_true, if_false, reduceIte, not_false_eq_true, ne_lt0, ne_lt1, ne_lt2, ne_lt3, ne_lt4, cs]; rfl) | (simp only [sel, rst, List.cons_append, List.nil_append, World.size_alloc, size_ext, World.size_setCell, size_setMap, World.size_drew, size_drewN, upd, List.set_cons_zero, List.set_cons_succ, if_true, if_false, reduceIte, not_false_eq_true, ne_lt0, ne_lt1, ne_lt2, ne_lt3, ne_lt4]; rfl)
                    case measure => simp [intOf]; omega
set_option maxRecDepth 100000 in
theorem readProposerHeard_3 : Try.prog.readableRec 3 = true ∧ 3 < Try.prog.types.size := ⟨by kernel_rfl, of_decide_eq_true (by kernel_rfl)⟩
set_option maxRecDepth 100000 in
theorem readProposerHeard_43 : Try.prog.readableRec 43 = true ∧ 43 < Try.prog.types.size := ⟨by kernel_rfl, of_decide_eq_true (by kernel_rfl)⟩
set_option maxRecDepth 100000 in
theorem ownProposerHeard : ownKnob Try.prog.godebug = none := by kernel_rfl
set_option maxRecDepth 100000 in
theorem laidOutProposerHeard : laidOutB Try.prog = true := by kernel_rfl
set_option maxRecDepth 100000 in
theorem contractProposerHeard (H : Type) (enc : TypeId × Value → H) (W : World) (base : Nat) (args : Array Value) (ds gs : List (DataW H)) (before : List MemPlace)
    (hval : ∀ (j : Nat) t v, Try.f4.params[j]? = some t → args[j]? = some v → Value.okWide Try.prog W .any base t v)
    (hW : DataW.Whole enc Try.prog Try.f4.params.toList Rows.proposerHeardSpec.vars false W args.toList ds gs before) (hk : Rows.uptoSmall H (ds ++ gs) = true) :
    Calls Try.prog 4 args W fun e W' => ∃ v, e = .returned v ∧ Rows.proposerHeardSpec.post enc Try.prog Try.f4 false true false false W args v W' := by
  have hfin : ∀ W', Below W.heap.size W W' → Rows.proposerHeardSpec.post enc Try.prog Try.f4 false true false false W args (.bool true) W' := fun W' hb =>
    post_of_walk (n := 2) (boolT := 4) rfl (fun ds h => by match ds, h with | [a0, a1], _ => exact ⟨rfl, rfl, rfl⟩) rfl rfl Try.underlying4 laidOutProposerHeard (fun t ht => by rw [Try.params4] at ht; simp at ht; rcases ht with rfl | rfl; exact readProposerHeard_3; exact readProposerHeard_43) hW hb
  have hN : Rows.uptoBulkAll (ds ++ gs) ≤ 1048576 := of_decide_eq_true hk
  obtain ⟨p, q, hA, hV, rfl, hfz, hnd⟩ := hW
  rw [Try.params4] at hA hval
  obtain ⟨v0, vs0, d0, ds0, p0, q0, hargs, rfl, rfl, h0, r0⟩ := trodAll_cons hA
  obtain ⟨v1, vs1, d1, ds1, p1, q1, rfl, rfl, rfl, h1, r1⟩ := trodAll_cons r0
  obtain ⟨rfl, rfl, rfl⟩ := trodAll_nil r1
  obtain rfl : args = #[v0, v1] := by cases args; simp_all
  simp only [List.cons_append, List.nil_append, Rows.uptoBulkAll] at hN
  obtain ⟨x0, rfl⟩ := okWide_int Try.underlying3 (hval 0 3 v0 rfl rfl)
  obtain ⟨f0, g0⟩ := h0
  have ty0 := typed_of_trod (N := 1048576) f0 _ _ _ g0 (by simp only; omega)
  obtain ⟨A1, len1, cap1, rfl⟩ := okWide_slice Try.underlying43 (hval 1 43 v1 rfl rfl)
  obtain ⟨f1, g1⟩ := h1
  have ty1 := typed_of_trod (N := 1048576) f1 _ _ _ g1 (by simp only; omega)
  obtain ⟨c, hc1, hc2⟩ := typed_int Try.underlying3 ty0
  obtain rfl : x0 = c := by simpa [Value.cells] using hc1
  obtain ⟨l, hl, hok⟩ := read_list (cs := Op11.cells) (ok := Op11.ok) Try.underlying43 cells_op (by omega) (fun f' l' h => read_op11 h) (Nat.le_refl _) ty1
  exact (walkHeard x0 _ l W (bound64 hc2) hl hok).mono fun e W' ⟨he, hy⟩ => ⟨_, he, hfin W' hy⟩

set_option maxRecDepth 100000 in
theorem liftedProposerHeard (os : Os) (started : os.Started) (H : Type) (enc : TypeId × Value → H) (F : Stop.Interp) :
    ReturnsInHanded {} Try.checked os 4 .any ((Rows.OpenSpec.upto Rows.proposerHeardSpec).pre6 enc Try.prog Try.f4 Rows.proposerHeardUptoRow.domain false) (((Rows.OpenSpec.upto Rows.proposerHeardSpec).at F).post enc Try.prog Try.f4 false true false false) := by
  refine returnsInHanded_of_cond (C := Try.checked) (s := Rows.OpenSpec.upto Rows.proposerHeardSpec) (k := Rows.uptoSmall) rfl ownProposerHeard started (by kernel_rfl) Try.func4
    (OpenSpec.witness (enc := enc) (C := Try.checked) (s := Rows.OpenSpec.upto Rows.proposerHeardSpec) (k := Rows.uptoSmall) rfl false
      ⟨#[], #[.int .i64 0, .slice none 0 0], []⟩ 8 (by kernel_rfl) (by kernel_rfl) (by kernel_rfl)
      (x := ([.lit (.int .i64 0), .nil], [], [])) (by kernel_rfl) rfl (by kernel_rfl)) ?_
  intro W base args ds gs before hval hW _ hk _
  exact contractProposerHeard H enc W base args ds gs before hval hW hk

theorem ProposerHeard_holds : Rows.ProposerHeardUptoSaid :=
  OpenClaim.holds_of_cond 4 Try.f4 rfl rfl rfl rfl rfl rfl rfl ⟨rfl, rfl, rfl, rfl, rfl⟩ rfl rfl rfl rfl rfl (by kernel_rfl) Try.func4 (by kernel_rfl)
    (of_decide_eq_true (by kernel_rfl)) (by unfold Func.isWrapper; first | (rw [if_pos (by decide +kernel)]; kernel_rfl) | (rw [if_neg (by decide +kernel)]; exact ⟨rfl, rfl⟩))
    (fun os started H enc _ F => liftedProposerHeard os started H enc F)
end Go.Proofs.Ytkhpikjmhamppaa
