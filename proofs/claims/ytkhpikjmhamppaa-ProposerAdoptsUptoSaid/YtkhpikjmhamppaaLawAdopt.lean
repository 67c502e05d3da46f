/- PROVED: what was accepted is proposed again (ProposerAdopts): for arguments of bulk at most 1048576, the law returns true, and each argument reads behind the call as it read before. -/
import Derived.Test.YtkhpikjmhamppaaAdoptPlain
import Derived.Test.YtkhpikjmhamppaaPick11
import Derived.Test.YtkhpikjmhamppaaMore11
set_option linter.unusedVariables false
set_option linter.unusedSimpArgs false
namespace Go.Proofs.Ytkhpikjmhamppaa
open Go.RowKit Go.WideShapes Go.ChangeShapes Go.ChangeAt Go.Tk

def toldCells (o : ToldR) : List Value := [.int .i64 o.from_, .bool o.a.is, .int .u32 o.a.b.r, .int .u8 o.a.b.n, .string o.a.v]
def toldOk (o : ToldR) : Prop := (-9223372036854775808 ≤ o.from_ ∧ o.from_ ≤ 9223372036854775807) ∧ o.a.b.ok
set_option maxRecDepth 100000 in
set_option maxHeartbeats 16000000 in
theorem walkAdopt (c : Int) (sv : Value) (l : List ToldR) (w : World) (hc : -9223372036854775808 ≤ c ∧ c ≤ 9223372036854775807) (hs : ArgList w 5 toldCells sv l) (hok : ∀ o ∈ l, toldOk o) : Calls Try.prog 3 #[.int .i64 c, sv] w (fun e w' => e = .returned (.bool true) ∧ Below w.heap.size w w') := by
  obtain ⟨hl, A, cp, rfl, hcs⟩ := hs
  have HC := Lib.hid hcs
  have HO := Lib.hid hok
  clear hcs hok
  have O : Mem w [] w [] := Mem.begin
  have PK := Lib.hid (fun W => law_pick c 9 W hc (by omega) (by omega))
  have hr := pick11_range (c := c) (n := 9) (by omega)
  generalize pick11 c 9 = q at *
  obtain ⟨n, hn⟩ : ∃ n, n = 1 + q := ⟨_, rfl⟩
  have hn1 : 1 ≤ n := by omega
  have hn9 : n ≤ 9 := by omega
  obtain rfl : q = n - 1 := by omega
  clear hn hr hc
  have hw : IntKind.i64.wrap (1 + (n - 1)) = n := by simp [IntKind.wrap, IntKind.signed, IntKind.bits]; omega
  have BG := Lib.hid (fun W pb h => pA_Begin W pb none (newP 3 n) 7 ownV h (by simp [newP]) (by simp) (by simp [newP, noB]))
  simp only [newP, ownV] at BG
  go_enter Try.func3, Try.ntmps3
  have cs := O.facts
  simp only [factsP, cellsP, roomP, foots_cons, foots_nil, foots_append, foot_pt, ptb, ptb_mapA, foot_mapA, factsP_mapA, foot_bun, List.append_nil, List.nil_append, List.cons_append, List.nodup_cons, List.nodup_nil, List.mem_cons, List.not_mem_nil, List.mem_singleton, List.forall_mem_cons, not_or, not_false_eq_true, and_true, true_and, or_false, false_or, forall_eq_or_imp, forall_eq, implies_true, Nat.zero_add, Nat.reduceAdd, and_assoc, ptb_propA, factsP_propA, ptb_learnA, factsP_learnA] at cs
  go_wp2_with fail
  first | apply Mem.atCall | apply Mem.atCode | apply Mem.atList
  case h => repeat' (first | (with_reducible exact O) | (with_reducible apply Mem.drew) | (with_reducible apply Mem.drewN) | (with_reducible apply Mem.ext) | (with_reducible apply Mem.alloc) | (with_reducible apply Mem.setCell) | (simp only [ptb, ptb_upd, foots_cons, List.mem_cons, World.size_alloc, size_ext, World.size_setCell, true_or, or_true, eq_self_iff_true]))
  case' k =>
    intro w1 O'
    (try clear O)
    have O := O'
    clear O'
    (first | simp only [sel, rst, List.cons_append, List.nil_append, World.size_alloc, size_ext, World.size_setCell, size_setMap, World.size_drew, size_drewN, upd, List.set_cons_zero, List.set_cons_succ, if_true, if_false, reduceIte, not_false_eq_true, ne_lt0, ne_lt1, ne_lt2, ne_lt3, ne_lt4, cs] at O | simp only [sel, rst, List.cons_append, List.nil_append, World.size_alloc, size_ext, World.size_setCell, size_setMap, World.size_drew, size_drewN, upd, List.set_cons_zero, List.set_cons_succ, if_true, if_false, reduceIte, not_false_eq_true, ne_lt0, ne_lt1, ne_lt2, ne_lt3, ne_lt4] at O | skip)
    (try clear cs)
    (try clear v1)
    (try clear v2)
    (try clear v3)
  refine (PK.out _).mono ?_
  rintro e w2 ⟨rfl, o⟩
  replace O := O.callp [] o
  clear o
  simp only [put, List.cons_append, List.nil_append] at O
  have cs := O.facts
  simp only [factsP, cellsP, roomP, foots_cons, foots_nil, foots_append, foot_pt, ptb, ptb_mapA, foot_mapA, factsP_mapA, foot_bun, List.append_nil, List.nil_append, List.cons_append, List.nodup_cons, List.nodup_nil, List.mem_cons, List.not_mem_nil, List.mem_singleton, List.forall_mem_cons, not_or, not_false_eq_true, and_true, true_and, or_false, false_or, forall_eq_or_imp, forall_eq, implies_true, Nat.zero_add, Nat.reduceAdd, and_assoc, ptb_propA, factsP_propA, ptb_learnA, factsP_learnA] at cs
  go_wp2_with fail
  first | apply Mem.atCall | apply Mem.atCode | apply Mem.atList
  case h => repeat' (first | (with_reducible exact O) | (with_reducible apply Mem.drew) | (with_reducible apply Mem.drewN) | (with_reducible apply Mem.ext) | (with_reducible apply Mem.alloc) | (with_reducible apply Mem.setCell) | (simp only [ptb, ptb_upd, foots_cons, List.mem_cons, World.size_alloc, size_ext, World.size_setCell, true_or, or_true, eq_self_iff_true]))
  case' k =>
    intro w3 O'
    (try clear O)
    have O := O'
    clear O'
    (first | simp only [sel, rst, List.cons_append, List.nil_append, World.size_alloc, size_ext, World.size_setCell, size_setMap, World.size_drew, size_drewN, upd, List.set_cons_zero, List.set_cons_succ, if_true, if_false, reduceIte, not_false_eq_true, ne_lt0, ne_lt1, ne_lt2, ne_lt3, ne_lt4, cs] at O | simp only [sel, rst, List.cons_append, List.nil_append, World.size_alloc, size_ext, World.size_setCell, size_setMap, World.size_drew, size_drewN, upd, List.set_cons_zero, List.set_cons_succ, if_true, if_false, reduceIte, not_false_eq_true, ne_lt0, ne_lt1, ne_lt2, ne_lt3, ne_lt4] at O | skip)
    (try clear cs)
    (try clear v1)
    (try clear v2)
    (try clear v3)
  refine (pA_New _ 3 n ⟨by omega, by omega, hn1, hn9⟩).mono ?_
  rintro e w4 ⟨rfl, o⟩
  replace O := O.callp [] o
  clear o
  simp only [put, List.cons_append, List.nil_append] at O
  have cs := O.facts
  simp only [factsP, cellsP, roomP, foots_cons, foots_nil, foots_append, foot_pt, ptb, ptb_mapA, foot_mapA, factsP_mapA, foot_bun, List.append_nil, List.nil_append, List.cons_append, List.nodup_cons, List.nodup_nil, List.mem_cons, List.not_mem_nil, List.mem_singleton, List.forall_mem_cons, not_or, not_false_eq_true, and_true, true_and, or_false, false_or, forall_eq_or_imp, forall_eq, implies_true, Nat.zero_add, Nat.reduceAdd, and_assoc, ptb_propA, factsP_propA, ptb_learnA, factsP_learnA] at cs
  go_wp2_with fail
  first | apply Mem.atCall | apply Mem.atCode | apply Mem.atList
  case h => repeat' (first | (with_reducible exact O) | (with_reducible apply Mem.drew) | (with_reducible apply Mem.drewN) | (with_reducible apply Mem.ext) | (with_reducible apply Mem.alloc) | (with_reducible apply Mem.setCell) | (simp only [ptb, ptb_upd, foots_cons, List.mem_cons, World.size_alloc, size_ext, World.size_setCell, true_or, or_true, eq_self_iff_true]))
  case' k =>
    intro w5 O'
    (try clear O)
    have O := O'
    clear O'
    (first | simp only [sel, rst, List.cons_append, List.nil_append, World.size_alloc, size_ext, World.size_setCell, size_setMap, World.size_drew, size_drewN, upd, List.set_cons_zero, List.set_cons_succ, if_true, if_false, reduceIte, not_false_eq_true, ne_lt0, ne_lt1, ne_lt2, ne_lt3, ne_lt4, cs] at O | simp only [sel, rst, List.cons_append, List.nil_append, World.size_alloc, size_ext, World.size_setCell, size_setMap, World.size_drew, size_drewN, upd, List.set_cons_zero, List.set_cons_succ, if_true, if_false, reduceIte, not_false_eq_true, ne_lt0, ne_lt1, ne_lt2, ne_lt3, ne_lt4] at O | skip)
    (try clear cs)
    (try clear v1)
    (try clear v2)
    (try clear v3)
  refine (alive11 _).mono ?_
  rintro e w6 ⟨rfl, o⟩
  replace O := O.callp [] o
  clear o
  simp only [put, List.cons_append, List.nil_append] at O
  have cs := O.facts
  simp only [factsP, cellsP, roomP, foots_cons, foots_nil, foots_append, foot_pt, ptb, ptb_mapA, foot_mapA, factsP_mapA, foot_bun, List.append_nil, List.nil_append, List.cons_append, List.nodup_cons, List.nodup_nil, List.mem_cons, List.not_mem_nil, List.mem_singleton, List.forall_mem_cons, not_or, not_false_eq_true, and_true, true_and, or_false, false_or, forall_eq_or_imp, forall_eq, implies_true, Nat.zero_add, Nat.reduceAdd, and_assoc, ptb_propA, factsP_propA, ptb_learnA, factsP_learnA] at cs
  go_wp2_with fail
  first | apply Mem.atCall | apply Mem.atCode | apply Mem.atList
  case h => repeat' (first | (with_reducible exact O) | (with_reducible apply Mem.drew) | (with_reducible apply Mem.drewN) | (with_reducible apply Mem.ext) | (with_reducible apply Mem.alloc) | (with_reducible apply Mem.setCell) | (simp only [ptb, ptb_upd, foots_cons, List.mem_cons, World.size_alloc, size_ext, World.size_setCell, true_or, or_true, eq_self_iff_true]))
  case' k =>
    intro w7 O'
    (try clear O)
    have O := O'
    clear O'
    (first | simp only [sel, rst, List.cons_append, List.nil_append, World.size_alloc, size_ext, World.size_setCell, size_setMap, World.size_drew, size_drewN, upd, List.set_cons_zero, List.set_cons_succ, if_true, if_false, reduceIte, not_false_eq_true, ne_lt0, ne_lt1, ne_lt2, ne_lt3, ne_lt4, cs] at O | simp only [sel, rst, List.cons_append, List.nil_append, World.size_alloc, size_ext, World.size_setCell, size_setMap, World.size_drew, size_drewN, upd, List.set_cons_zero, List.set_cons_succ, if_true, if_false, reduceIte, not_false_eq_true, ne_lt0, ne_lt1, ne_lt2, ne_lt3, ne_lt4] at O | skip)
    (try clear cs)
    (try clear v1)
    (try clear v2)
    (try clear v3)
  refine (BG.out w7 _ (O.pre [true])).mono ?_
  rintro e w8 ⟨rfl, mb, o⟩
  replace O := O.callp [true] o
  clear o
  simp only [put, List.cons_append, List.nil_append] at O
  have cs := O.facts
  simp only [factsP, cellsP, roomP, foots_cons, foots_nil, foots_append, foot_pt, ptb, ptb_mapA, foot_mapA, factsP_mapA, foot_bun, List.append_nil, List.nil_append, List.cons_append, List.nodup_cons, List.nodup_nil, List.mem_cons, List.not_mem_nil, List.mem_singleton, List.forall_mem_cons, not_or, not_false_eq_true, and_true, true_and, or_false, false_or, forall_eq_or_imp, forall_eq, implies_true, Nat.zero_add, Nat.reduceAdd, and_assoc, ptb_propA, factsP_propA, ptb_learnA, factsP_learnA] at cs
  go_wp2_with fail
  clear PK BG
  go_loopw [10, 12, 13] (fun s10 s12 s13 wr => ∃ (k : Nat) (p : Prop11) (st : Seen), k ≤ l.length ∧ k ≤ 60 ∧ s10 = .int .i64 st.count ∧ s12 = .bool st.some_ ∧ s13 = .int .i64 k ∧
    Mem w [] wr [.pt (w8.heap.size + 1 + 1) [.int .u32 st.top.r, .int .u8 st.top.n] 31, .pt (w8.heap.size + 1) (st.seen.map Value.bool) 34, .pt w8.heap.size [.int .u32 7, .int .u8 3] 31, propA w3.heap.size (some mb) p] ∧ Hid (Adopt n (l.take k) p st)) (fun _ _ s13 _ => l.length - (intOf s13).toNat)
  case atStart =>
    refine ⟨0, _, _, by omega, by omega, rfl, rfl, rfl, ?_, Lib.hid (Adopt.zero n ⟨hn1, hn9⟩)⟩
    have O2 := ((O.alloc [.int .u32 7, .int .u8 3] 31).alloc [.bool false, .bool false, .bool false, .bool false, .bool false, .bool false, .bool false, .bool false, .bool false] 34).alloc [.int .u32 0, .int .u8 0] 31
    simp only [World.size_alloc] at O2
    exact O2
  case round =>
    clear O cs
    obtain ⟨k, p, st, hk, hk60, rfl, rfl, rfl, O, HA⟩ := hrel
    by_cases hlt : k < l.length ∧ k < 60
    case neg =>
      have hcase : (k < l.length ∧ ¬ k < 60) ∨ ¬ k < l.length := by omega
      rcases hcase with ⟨h1, h2⟩ | h1
      all_goals
        have cs := O.facts
        simp only [factsP, cellsP, roomP, foots_cons, foots_nil, foots_append, foot_pt, ptb, ptb_mapA, foot_mapA, factsP_mapA, foot_bun, List.append_nil, List.nil_append, List.cons_append, List.nodup_cons, List.nodup_nil, List.mem_cons, List.not_mem_nil, List.mem_singleton, List.forall_mem_cons, not_or, not_false_eq_true, and_true, true_and, or_false, false_or, forall_eq_or_imp, forall_eq, implies_true, Nat.zero_add, Nat.reduceAdd, and_assoc, ptb_propA, factsP_propA, ptb_learnA, factsP_learnA] at cs
        go_wp2_with fail
        go_ret
        exact ⟨rfl, O.fr.below rfl⟩
    case pos =>
      obtain ⟨hlt, h60⟩ := hlt
      obtain ⟨b, off, rfl, hbb, hq⟩ := HC.out k _ (List.getElem?_eq_getElem hlt)
      have hoo := HO.out _ (List.getElem_mem hlt)
      have hlk : l[k]? = some l[k] := List.getElem?_eq_getElem hlt
      have htk : l.take (k + 1) = l.take k ++ [l[k]] := by rw [List.take_succ_eq_append_getElem hlt]
      have HTK := Lib.hid htk
      generalize l[k] = o at *
      have V := Lib.hid (fun W (h : Fr [] w W) => arg_view hbb hq h)
      obtain ⟨of, ⟨oi, ⟨orr, on⟩, ov⟩⟩ := o
      have HOO := Lib.hid hoo
      clear hoo hq hlk htk
      simp only [toldCells, cellsQ, Nat.add_zero, Nat.reduceAdd, and_true, Nat.zero_add] at V
      skip
      have PK := Lib.hid (fun W => law_pick of n W HOO.out.1 hn1 (by omega))
      have hpr := pick11_range (c := of) (n := n) hn1
      generalize pick11 of n = kk at *
      obtain ⟨hpr0, hpr1⟩ := hpr
      obtain ⟨j, rfl⟩ := Int.eq_ofNat_of_zero_le hpr0
      have hj9 : j < 9 := by omega
      have hpb := HA.out.b
      have hpn := HA.out.n_
      have hsj := HA.out.seen j hpr1
      obtain ⟨pnode, pn, pb, pprom, pbest, pown⟩ := p
      simp only at hpb hpn hsj
      subst hpb hpn
      by_cases hd : st.seen.getD j false = true
      · have AN := HA.out.dup ⟨of, ⟨oi, ⟨orr, on⟩, ov⟩⟩
        have HAN := Lib.hid AN
        clear AN
        have PR := Lib.hid (fun W h => pA_Promise_dup W w3.heap.size mb ⟨pnode, pn, ⟨7, 3⟩, pprom, pbest, pown⟩ j ⟨oi, ⟨orr, on⟩, ov⟩ h (by simp) (by omega) (by simpa using hpr1) (by simpa using hn9) (hsj.trans hd))
        simp only [Ballot.val, Acc.val] at PR
        clear hsj
        have cs := O.facts
        simp only [factsP, cellsP, roomP, foots_cons, foots_nil, foots_append, foot_pt, ptb, ptb_mapA, foot_mapA, factsP_mapA, foot_bun, List.append_nil, List.nil_append, List.cons_append, List.nodup_cons, List.nodup_nil, List.mem_cons, List.not_mem_nil, List.mem_singleton, List.forall_mem_cons, not_or, not_false_eq_true, and_true, true_and, or_false, false_or, forall_eq_or_imp, forall_eq, implies_true, Nat.zero_add, Nat.reduceAdd, and_assoc, ptb_propA, factsP_propA, ptb_learnA, factsP_learnA] at cs
        have v1 := V.out _ O.fr
        simp only [roomP, and_assoc] at v1
        go_wp2_with fail
        first | apply Mem.atCall | apply Mem.atCode | apply Mem.atList
        case h => repeat' (first | (with_reducible exact O) | (with_reducible apply Mem.drew) | (with_reducible apply Mem.drewN) | (with_reducible apply Mem.ext) | (with_reducible apply Mem.alloc) | (with_reducible apply Mem.setCell) | (simp only [ptb, ptb_upd, foots_cons, List.mem_cons, World.size_alloc, size_ext, World.size_setCell, true_or, or_true, eq_self_iff_true]))
        case' k =>
          intro x1 O'
          (try clear O)
          have O := O'
          clear O'
          (first | simp only [sel, rst, List.cons_append, List.nil_append, World.size_alloc, size_ext, World.size_setCell, size_setMap, World.size_drew, size_drewN, upd, List.set_cons_zero, List.set_cons_succ, if_true, if_false, reduceIte, not_false_eq_true, ne_lt0, ne_lt1, ne_lt2, ne_lt3, ne_lt4, cs] at O | simp only [sel, rst, List.cons_append, List.nil_append, World.size_alloc, size_ext, World.size_setCell, size_setMap, World.size_drew, size_drewN, upd, List.set_cons_zero, List.set_cons_succ, if_true, if_false, reduceIte, not_false_eq_true, ne_lt0, ne_lt1, ne_lt2, ne_lt3, ne_lt4] at O | skip)
          (try clear cs)
          (try clear v1)
          (try clear v2)
          (try clear v3)
        refine (PK.out _).mono ?_
        rintro e x2 ⟨rfl, o⟩
        replace O := O.callp [] o
        clear o
        simp only [put, List.cons_append, List.nil_append] at O
        have cs := O.facts
        simp only [factsP, cellsP, roomP, foots_cons, foots_nil, foots_append, foot_pt, ptb, ptb_mapA, foot_mapA, factsP_mapA, foot_bun, List.append_nil, List.nil_append, List.cons_append, List.nodup_cons, List.nodup_nil, List.mem_cons, List.not_mem_nil, List.mem_singleton, List.forall_mem_cons, not_or, not_false_eq_true, and_true, true_and, or_false, false_or, forall_eq_or_imp, forall_eq, implies_true, Nat.zero_add, Nat.reduceAdd, and_assoc, ptb_propA, factsP_propA, ptb_learnA, factsP_learnA] at cs
        have v1 := V.out _ O.fr
        simp only [roomP, and_assoc] at v1
        go_wp2_with fail
        go_cut [15, 16] (fun s15 s16 wc => s16 = .bool false ∧ Mem w [] wc [.pt (w8.heap.size + 1 + 1) [.int .u32 st.top.r, .int .u8 st.top.n] 31, .pt (w8.heap.size + 1) (st.seen.map Value.bool) 34, .pt w8.heap.size [.int .u32 7, .int .u8 3] 31, propA w3.heap.size (some mb) ⟨pnode, pn, ⟨7, 3⟩, pprom, pbest, pown⟩])
        case first =>
          apply region_held_mem [false, false, true] (by kernel_rfl)
          case O => repeat' (first | (with_reducible exact O) | (with_reducible apply Mem.drew) | (with_reducible apply Mem.drewN) | (with_reducible apply Mem.ext) | (with_reducible apply Mem.alloc) | (with_reducible apply Mem.setCell) | (simp only [ptb, ptb_upd, foots_cons, List.mem_cons, World.size_alloc, size_ext, World.size_setCell, true_or, or_true, eq_self_iff_true]))
          case' h =>
            intro wr1 O'
            (try clear O)
            have O := O'
            clear O'
            (first | simp only [sel, rst, List.cons_append, List.nil_append, World.size_alloc, size_ext, World.size_setCell, size_setMap, World.size_drew, size_drewN, upd, List.set_cons_zero, List.set_cons_succ, if_true, if_false, reduceIte, not_false_eq_true, ne_lt0, ne_lt1, ne_lt2, ne_lt3, ne_lt4, cs] at O | simp only [sel, rst, List.cons_append, List.nil_append, World.size_alloc, size_ext, World.size_setCell, size_setMap, World.size_drew, size_drewN, upd, List.set_cons_zero, List.set_cons_succ, if_true, if_false, reduceIte, not_false_eq_true, ne_lt0, ne_lt1, ne_lt2, ne_lt3, ne_lt4] at O | skip)
            (try clear cs)
            (try clear v1)
            (try clear v2)
            (try clear v3)
          refine takeH (i := 0) (v := ?v1_1) rfl (by kernel_rfl) (by kernel_rfl) (by kernel_rfl) (fun _ _ _ h => h) (by rfl) ?y1_1 (O.sel [false, false, true]) ?r1_1
          case y1_1 =>
            intro WW hSw
            (go_simp) <;> (with_reducible rfl)
          case' r1_1 =>
            try simp only [Act.put, List.setIfInBounds_toArray, List.set_cons_zero, List.set_cons_succ]
          refine takeH (i := 1) (v := ?v1_2) rfl (by kernel_rfl) (by kernel_rfl) (by kernel_rfl) (fun _ _ _ h => h) (by rfl) ?y1_2 (O.sel [false, false, true]) ?r1_2
          case y1_2 =>
            intro WW hSw
            (go_simp) <;> (with_reducible rfl)
          case' r1_2 =>
            try simp only [Act.put, List.setIfInBounds_toArray, List.set_cons_zero, List.set_cons_succ]
          refine takeH (i := 2) (v := ?v1_3) rfl (by kernel_rfl) (by kernel_rfl) (by kernel_rfl) (fun _ _ _ h => h) (by rfl) ?y1_3 (O.sel [false, false, true]) ?r1_3
          case y1_3 =>
            intro WW hSw
            replace hSw : Mem _ _ WW _ := hSw
            have cs := hSw.facts
            simp only [sel, factsP, cellsP, roomP, foots_cons, foots_nil, foots_append, foot_pt, ptb, ptb_mapA, foot_mapA, factsP_mapA, foot_bun, List.append_nil, List.nil_append, List.cons_append, List.nodup_cons, List.nodup_nil, List.mem_cons, List.not_mem_nil, List.mem_singleton, List.forall_mem_cons, not_or, not_false_eq_true, and_true, true_and, or_false, false_or, forall_eq_or_imp, forall_eq, implies_true, Nat.zero_add, Nat.reduceAdd, and_assoc, ptb_propA, factsP_propA, ptb_learnA, factsP_learnA] at cs
            have v1 := V.out _ hSw.fr
            simp only [roomP, and_assoc] at v1
            (go_simp) <;> (with_reducible rfl)
          case' r1_3 =>
            try simp only [Act.put, List.setIfInBounds_toArray, List.set_cons_zero, List.set_cons_succ]
          refine takeH (i := 3) (v := ?v1_4) rfl (by kernel_rfl) (by kernel_rfl) (by kernel_rfl) (fun _ _ _ h => h) (by rfl) ?y1_4 (O.sel [false, false, true]) ?r1_4
          case y1_4 =>
            intro WW hSw
            (go_simp) <;> (with_reducible rfl)
          case' r1_4 =>
            try simp only [Act.put, List.setIfInBounds_toArray, List.set_cons_zero, List.set_cons_succ]
          refine takeH (i := 4) (v := ?v1_5) rfl (by kernel_rfl) (by kernel_rfl) (by kernel_rfl) (fun _ _ _ h => h) (by rfl) ?y1_5 (O.sel [false, false, true]) ?r1_5
          case y1_5 =>
            intro WW hSw
            (go_simp) <;> (with_reducible rfl)
          case' r1_5 =>
            try simp only [Act.put, List.setIfInBounds_toArray, List.set_cons_zero, List.set_cons_succ]
          refine takeH (i := 5) (v := ?v1_6) rfl (by kernel_rfl) (by kernel_rfl) (by kernel_rfl) (fun _ _ _ h => h) (by rfl) ?y1_6 (O.sel [false, false, true]) ?r1_6
          case y1_6 =>
            intro WW hSw
            replace hSw : Mem _ _ WW _ := hSw
            have cs := hSw.facts
            simp only [sel, factsP, cellsP, roomP, foots_cons, foots_nil, foots_append, foot_pt, ptb, ptb_mapA, foot_mapA, factsP_mapA, foot_bun, List.append_nil, List.nil_append, List.cons_append, List.nodup_cons, List.nodup_nil, List.mem_cons, List.not_mem_nil, List.mem_singleton, List.forall_mem_cons, not_or, not_false_eq_true, and_true, true_and, or_false, false_or, forall_eq_or_imp, forall_eq, implies_true, Nat.zero_add, Nat.reduceAdd, and_assoc, ptb_propA, factsP_propA, ptb_learnA, factsP_learnA] at cs
            have v1 := V.out _ hSw.fr
            simp only [roomP, and_assoc] at v1
            (go_simp) <;> (with_reducible rfl)
          case' r1_6 =>
            try simp only [Act.put, List.setIfInBounds_toArray, List.set_cons_zero, List.set_cons_succ]
          refine takeH (i := 6) (v := ?v1_7) rfl (by kernel_rfl) (by kernel_rfl) (by kernel_rfl) (fun _ _ _ h => h) (by rfl) ?y1_7 (O.sel [false, false, true]) ?r1_7
          case y1_7 =>
            intro WW hSw
            (go_simp) <;> (with_reducible rfl)
          case' r1_7 =>
            try simp only [Act.put, List.setIfInBounds_toArray, List.set_cons_zero, List.set_cons_succ]
          refine takeH (i := 7) (v := ?v1_8) rfl (by kernel_rfl) (by kernel_rfl) (by kernel_rfl) (fun _ _ _ h => h) (by rfl) ?y1_8 (O.sel [false, false, true]) ?r1_8
          case y1_8 =>
            intro WW hSw
            replace hSw : Mem _ _ WW _ := hSw
            have cs := hSw.facts
            simp only [sel, factsP, cellsP, roomP, foots_cons, foots_nil, foots_append, foot_pt, ptb, ptb_mapA, foot_mapA, factsP_mapA, foot_bun, List.append_nil, List.nil_append, List.cons_append, List.nodup_cons, List.nodup_nil, List.mem_cons, List.not_mem_nil, List.mem_singleton, List.forall_mem_cons, not_or, not_false_eq_true, and_true, true_and, or_false, false_or, forall_eq_or_imp, forall_eq, implies_true, Nat.zero_add, Nat.reduceAdd, and_assoc, ptb_propA, factsP_propA, ptb_learnA, factsP_learnA] at cs
            have v1 := V.out _ hSw.fr
            simp only [roomP, and_assoc] at v1
            (go_simp) <;> (with_reducible rfl)
          case' r1_8 =>
            try simp only [Act.put, List.setIfInBounds_toArray, List.set_cons_zero, List.set_cons_succ]
          refine wpAnyH_ready (rs := [8]) (by kernel_rfl) (by simp) ?_
          refine consH rfl (fun K hK => ?_) AllReadyH.nil
          have cs := O.facts
          simp only [factsP, cellsP, roomP, foots_cons, foots_nil, foots_append, foot_pt, ptb, ptb_mapA, foot_mapA, factsP_mapA, foot_bun, List.append_nil, List.nil_append, List.cons_append, List.nodup_cons, List.nodup_nil, List.mem_cons, List.not_mem_nil, List.mem_singleton, List.forall_mem_cons, not_or, not_false_eq_true, and_true, true_and, or_false, false_or, forall_eq_or_imp, forall_eq, implies_true, Nat.zero_add, Nat.reduceAdd, and_assoc, ptb_propA, factsP_propA, ptb_learnA, factsP_learnA] at cs
          have v1 := V.out _ O.fr
          simp only [roomP, and_assoc] at v1
          go_simp
          apply Mem.atCall
          case h => repeat' (first | (with_reducible exact O) | (with_reducible apply Mem.drew) | (with_reducible apply Mem.drewN) | (with_reducible apply Mem.ext) | (with_reducible apply Mem.alloc) | (with_reducible apply Mem.setCell) | (simp only [ptb, ptb_upd, foots_cons, List.mem_cons, World.size_alloc, size_ext, World.size_setCell, true_or, or_true, eq_self_iff_true]))
          intro w1_9 O'
          (try clear O)
          have O := O'
          clear O'
          (first | simp only [sel, rst, List.cons_append, List.nil_append, World.size_alloc, size_ext, World.size_setCell, size_setMap, World.size_drew, size_drewN, upd, List.set_cons_zero, List.set_cons_succ, if_true, if_false, reduceIte, not_false_eq_true, ne_lt0, ne_lt1, ne_lt2, ne_lt3, ne_lt4, cs] at O | simp only [sel, rst, List.cons_append, List.nil_append, World.size_alloc, size_ext, World.size_setCell, size_setMap, World.size_drew, size_drewN, upd, List.set_cons_zero, List.set_cons_succ, if_true, if_false, reduceIte, not_false_eq_true, ne_lt0, ne_lt1, ne_lt2, ne_lt3, ne_lt4] at O | skip)
          (try clear cs)
          (try clear v1)
          (try clear v2)
          (try clear v3)
          refine (PR.out _ (O.pre [false, false, false, true])).mono ?_
          rintro e w1_9' ⟨rfl, o⟩
          replace O := O.callp [] o
          clear o
          simp only [put, List.cons_append, List.nil_append] at O
          go_wp2_with fail
          refine hK.out _ _ (O.sel [false, false, true]) (fun _ => ?_)
          clear hK K
          refine takeH (i := 9) (v := ?v1_10) rfl (by kernel_rfl) (by kernel_rfl) (by kernel_rfl) (fun _ _ _ h => h) (by rfl) ?y1_10 (O.sel [false, false, true]) ?r1_10
          case y1_10 =>
            intro WW hSw
            (go_simp) <;> (with_reducible rfl)
          case' r1_10 =>
            try simp only [Act.put, List.setIfInBounds_toArray, List.set_cons_zero, List.set_cons_succ]
          refine takeH (i := 10) (v := ?v1_11) rfl (by kernel_rfl) (by kernel_rfl) (by kernel_rfl) (fun _ _ _ h => h) (by rfl) ?y1_11 (O.sel [false, false, true]) ?r1_11
          case y1_11 =>
            intro WW hSw
            (go_simp) <;> (with_reducible rfl)
          case' r1_11 =>
            try simp only [Act.put, List.setIfInBounds_toArray, List.set_cons_zero, List.set_cons_succ]
          refine takeH (i := 11) (v := ?v1_12) rfl (by kernel_rfl) (by kernel_rfl) (by kernel_rfl) (fun _ _ _ h => h) (by rfl) ?y1_12 (O.sel [false, false, true]) ?r1_12
          case y1_12 =>
            intro WW hSw
            (go_simp) <;> (with_reducible rfl)
          case' r1_12 =>
            try simp only [Act.put, List.setIfInBounds_toArray, List.set_cons_zero, List.set_cons_succ]
          refine takeH (i := 12) (v := ?v1_13) rfl (by kernel_rfl) (by kernel_rfl) (by kernel_rfl) (fun _ _ _ h => h) (by rfl) ?y1_13 (O.sel [false, false, true]) ?r1_13
          case y1_13 =>
            intro WW hSw
            (go_simp) <;> (with_reducible rfl)
          case' r1_13 =>
            try simp only [Act.put, List.setIfInBounds_toArray, List.set_cons_zero, List.set_cons_succ]
          refine takeH (i := 13) (v := ?v1_14) rfl (by kernel_rfl) (by kernel_rfl) (by kernel_rfl) (fun _ _ _ h => h) (by rfl) ?y1_14 (O.sel [false, false, true]) ?r1_14
          case y1_14 =>
            intro WW hSw
            (go_simp) <;> (with_reducible rfl)
          case' r1_14 =>
            try simp only [Act.put, List.setIfInBounds_toArray, List.set_cons_zero, List.set_cons_succ]
          refine wpAnyH_done (by kernel_rfl) ?_ _
          go_wp2_with fail
          go_meet
          exact ⟨rfl, O⟩
        case rest =>
          clear O cs v1
          obtain ⟨rfl, O⟩ := hcut
          have SJ : Hid ((st.seen.map Value.bool)[j]? = some (.bool true)) := Lib.hid (by
            rw [List.getElem?_map]
            have h9 := HA.out.len9
            rw [List.getD_eq_getElem?_getD, List.getElem?_eq_getElem (by omega)] at hd
            rw [List.getElem?_eq_getElem (by omega)]
            simpa using hd)
          have hj9i : (j : Int) < 9 := by omega
          skip
          have cs := O.facts
          simp only [factsP, cellsP, roomP, foots_cons, foots_nil, foots_append, foot_pt, ptb, ptb_mapA, foot_mapA, factsP_mapA, foot_bun, List.append_nil, List.nil_append, List.cons_append, List.nodup_cons, List.nodup_nil, List.mem_cons, List.not_mem_nil, List.mem_singleton, List.forall_mem_cons, not_or, not_false_eq_true, and_true, true_and, or_false, false_or, forall_eq_or_imp, forall_eq, implies_true, Nat.zero_add, Nat.reduceAdd, and_assoc, ptb_propA, factsP_propA, ptb_learnA, factsP_learnA] at cs
          have v1 := V.out _ O.fr
          simp only [roomP, and_assoc] at v1
          have v2 := (Mem.ptCell O (b := w8.heap.size + 1) (cs := st.seen.map Value.bool) (t := 34) (by simp) SJ.out)
          try simp only [cellsQ, roomP, and_assoc, and_true, true_and, Nat.add_zero, Nat.zero_add, Nat.reduceAdd, factsP, cellsP, roomP, foots_cons, foots_nil, foots_append, foot_pt, ptb, ptb_mapA, foot_mapA, factsP_mapA, foot_bun, List.append_nil, List.nil_append, List.cons_append, List.nodup_cons, List.nodup_nil, List.mem_cons, List.not_mem_nil, List.mem_singleton, List.forall_mem_cons, not_or, not_false_eq_true, and_true, true_and, or_false, false_or, forall_eq_or_imp, forall_eq, implies_true, Nat.zero_add, Nat.reduceAdd, and_assoc, ptb_propA, factsP_propA, ptb_learnA, factsP_learnA] at v2
          go_wp2_with fail
          go_roundw
          case rel => exact ⟨k + 1, _, st, by omega, by omega, rfl, rfl, by go_num, O, Lib.hid (by rw [HTK.out]; exact HAN.out)⟩
          case measure => simp [intOf]; omega
      · skip
        have hdf : st.seen.getD j false = false := by simpa using hd
        have PR := Lib.hid (fun W h => pA_Promise_yes W w3.heap.size mb ⟨pnode, pn, ⟨7, 3⟩, pprom, pbest, pown⟩ j ⟨oi, ⟨orr, on⟩, ov⟩ h (by simp) (by omega) (by simpa using hpr1) (by simpa using hn9) (hsj.trans hdf))
        have hcl := (HA.out.room hn9 j hpr1 hdf).1
        have AN := HA.out.new ⟨of, ⟨oi, ⟨orr, on⟩, ov⟩⟩ j hpr1 hn9 hdf
        simp only at AN
        generalize promise11 ⟨pnode, pn, ⟨7, 3⟩, pprom, pbest, pown⟩ j ⟨7, 3⟩ ⟨oi, ⟨orr, on⟩, ov⟩ = R at AN PR
        obtain ⟨rv, ri, p2⟩ := R
        simp only [Ballot.val, Acc.val] at AN PR
        have HAN := Lib.hid AN
        clear AN hsj
        have cs := O.facts
        simp only [factsP, cellsP, roomP, foots_cons, foots_nil, foots_append, foot_pt, ptb, ptb_mapA, foot_mapA, factsP_mapA, foot_bun, List.append_nil, List.nil_append, List.cons_append, List.nodup_cons, List.nodup_nil, List.mem_cons, List.not_mem_nil, List.mem_singleton, List.forall_mem_cons, not_or, not_false_eq_true, and_true, true_and, or_false, false_or, forall_eq_or_imp, forall_eq, implies_true, Nat.zero_add, Nat.reduceAdd, and_assoc, ptb_propA, factsP_propA, ptb_learnA, factsP_learnA] at cs
        have v1 := V.out _ O.fr
        simp only [roomP, and_assoc] at v1
        go_wp2_with fail
        first | apply Mem.atCall | apply Mem.atCode | apply Mem.atList
        case h => repeat' (first | (with_reducible exact O) | (with_reducible apply Mem.drew) | (with_reducible apply Mem.drewN) | (with_reducible apply Mem.ext) | (with_reducible apply Mem.alloc) | (with_reducible apply Mem.setCell) | (simp only [ptb, ptb_upd, foots_cons, List.mem_cons, World.size_alloc, size_ext, World.size_setCell, true_or, or_true, eq_self_iff_true]))
        case' k =>
          intro x1 O'
          (try clear O)
          have O := O'
          clear O'
          (first | simp only [sel, rst, List.cons_append, List.nil_append, World.size_alloc, size_ext, World.size_setCell, size_setMap, World.size_drew, size_drewN, upd, List.set_cons_zero, List.set_cons_succ, if_true, if_false, reduceIte, not_false_eq_true, ne_lt0, ne_lt1, ne_lt2, ne_lt3, ne_lt4, cs] at O | simp only [sel, rst, List.cons_append, List.nil_append, World.size_alloc, size_ext, World.size_setCell, size_setMap, World.size_drew, size_drewN, upd, List.set_cons_zero, List.set_cons_succ, if_true, if_false, reduceIte, not_false_eq_true, ne_lt0, ne_lt1, ne_lt2, ne_lt3, ne_lt4] at O | skip)
          (try clear cs)
          (try clear v1)
          (try clear v2)
          (try clear v3)
        refine (PK.out _).mono ?_
        rintro e x2 ⟨rfl, o⟩
        replace O := O.callp [] o
        clear o
        simp only [put, List.cons_append, List.nil_append] at O
        have cs := O.facts
        simp only [factsP, cellsP, roomP, foots_cons, foots_nil, foots_append, foot_pt, ptb, ptb_mapA, foot_mapA, factsP_mapA, foot_bun, List.append_nil, List.nil_append, List.cons_append, List.nodup_cons, List.nodup_nil, List.mem_cons, List.not_mem_nil, List.mem_singleton, List.forall_mem_cons, not_or, not_false_eq_true, and_true, true_and, or_false, false_or, forall_eq_or_imp, forall_eq, implies_true, Nat.zero_add, Nat.reduceAdd, and_assoc, ptb_propA, factsP_propA, ptb_learnA, factsP_learnA] at cs
        have v1 := V.out _ O.fr
        simp only [roomP, and_assoc] at v1
        go_wp2_with fail
        go_cut [15, 16] (fun s15 s16 wc => s15 = .string rv ∧ s16 = .bool ri ∧ Mem w [] wc [.pt (w8.heap.size + 1 + 1) [.int .u32 st.top.r, .int .u8 st.top.n] 31, .pt (w8.heap.size + 1) (st.seen.map Value.bool) 34, .pt w8.heap.size [.int .u32 7, .int .u8 3] 31, propA w3.heap.size (some mb) p2])
        case first =>
          apply region_held_mem [false, false, true] (by kernel_rfl)
          case O => repeat' (first | (with_reducible exact O) | (with_reducible apply Mem.drew) | (with_reducible apply Mem.drewN) | (with_reducible apply Mem.ext) | (with_reducible apply Mem.alloc) | (with_reducible apply Mem.setCell) | (simp only [ptb, ptb_upd, foots_cons, List.mem_cons, World.size_alloc, size_ext, World.size_setCell, true_or, or_true, eq_self_iff_true]))
          case' h =>
            intro wr2 O'
            (try clear O)
            have O := O'
            clear O'
            (first | simp only [sel, rst, List.cons_append, List.nil_append, World.size_alloc, size_ext, World.size_setCell, size_setMap, World.size_drew, size_drewN, upd, List.set_cons_zero, List.set_cons_succ, if_true, if_false, reduceIte, not_false_eq_true, ne_lt0, ne_lt1, ne_lt2, ne_lt3, ne_lt4, cs] at O | simp only [sel, rst, List.cons_append, List.nil_append, World.size_alloc, size_ext, World.size_setCell, size_setMap, World.size_drew, size_drewN, upd, List.set_cons_zero, List.set_cons_succ, if_true, if_false, reduceIte, not_false_eq_true, ne_lt0, ne_lt1, ne_lt2, ne_lt3, ne_lt4] at O | skip)
            (try clear cs)
            (try clear v1)
            (try clear v2)
            (try clear v3)
          refine takeH (i := 0) (v := ?v2_1) rfl (by kernel_rfl) (by kernel_rfl) (by kernel_rfl) (fun _ _ _ h => h) (by rfl) ?y2_1 (O.sel [false, false, true]) ?r2_1
          case y2_1 =>
            intro WW hSw
            (go_simp) <;> (with_reducible rfl)
          case' r2_1 =>
            try simp only [Act.put, List.setIfInBounds_toArray, List.set_cons_zero, List.set_cons_succ]
          refine takeH (i := 1) (v := ?v2_2) rfl (by kernel_rfl) (by kernel_rfl) (by kernel_rfl) (fun _ _ _ h => h) (by rfl) ?y2_2 (O.sel [false, false, true]) ?r2_2
          case y2_2 =>
            intro WW hSw
            (go_simp) <;> (with_reducible rfl)
          case' r2_2 =>
            try simp only [Act.put, List.setIfInBounds_toArray, List.set_cons_zero, List.set_cons_succ]
          refine takeH (i := 2) (v := ?v2_3) rfl (by kernel_rfl) (by kernel_rfl) (by kernel_rfl) (fun _ _ _ h => h) (by rfl) ?y2_3 (O.sel [false, false, true]) ?r2_3
          case y2_3 =>
            intro WW hSw
            replace hSw : Mem _ _ WW _ := hSw
            have cs := hSw.facts
            simp only [sel, factsP, cellsP, roomP, foots_cons, foots_nil, foots_append, foot_pt, ptb, ptb_mapA, foot_mapA, factsP_mapA, foot_bun, List.append_nil, List.nil_append, List.cons_append, List.nodup_cons, List.nodup_nil, List.mem_cons, List.not_mem_nil, List.mem_singleton, List.forall_mem_cons, not_or, not_false_eq_true, and_true, true_and, or_false, false_or, forall_eq_or_imp, forall_eq, implies_true, Nat.zero_add, Nat.reduceAdd, and_assoc, ptb_propA, factsP_propA, ptb_learnA, factsP_learnA] at cs
            have v1 := V.out _ hSw.fr
            simp only [roomP, and_assoc] at v1
            (go_simp) <;> (with_reducible rfl)
          case' r2_3 =>
            try simp only [Act.put, List.setIfInBounds_toArray, List.set_cons_zero, List.set_cons_succ]
          refine takeH (i := 3) (v := ?v2_4) rfl (by kernel_rfl) (by kernel_rfl) (by kernel_rfl) (fun _ _ _ h => h) (by rfl) ?y2_4 (O.sel [false, false, true]) ?r2_4
          case y2_4 =>
            intro WW hSw
            (go_simp) <;> (with_reducible rfl)
          case' r2_4 =>
            try simp only [Act.put, List.setIfInBounds_toArray, List.set_cons_zero, List.set_cons_succ]
          refine takeH (i := 4) (v := ?v2_5) rfl (by kernel_rfl) (by kernel_rfl) (by kernel_rfl) (fun _ _ _ h => h) (by rfl) ?y2_5 (O.sel [false, false, true]) ?r2_5
          case y2_5 =>
            intro WW hSw
            (go_simp) <;> (with_reducible rfl)
          case' r2_5 =>
            try simp only [Act.put, List.setIfInBounds_toArray, List.set_cons_zero, List.set_cons_succ]
          refine takeH (i := 5) (v := ?v2_6) rfl (by kernel_rfl) (by kernel_rfl) (by kernel_rfl) (fun _ _ _ h => h) (by rfl) ?y2_6 (O.sel [false, false, true]) ?r2_6
          case y2_6 =>
            intro WW hSw
            replace hSw : Mem _ _ WW _ := hSw
            have cs := hSw.facts
            simp only [sel, factsP, cellsP, roomP, foots_cons, foots_nil, foots_append, foot_pt, ptb, ptb_mapA, foot_mapA, factsP_mapA, foot_bun, List.append_nil, List.nil_append, List.cons_append, List.nodup_cons, List.nodup_nil, List.mem_cons, List.not_mem_nil, List.mem_singleton, List.forall_mem_cons, not_or, not_false_eq_true, and_true, true_and, or_false, false_or, forall_eq_or_imp, forall_eq, implies_true, Nat.zero_add, Nat.reduceAdd, and_assoc, ptb_propA, factsP_propA, ptb_learnA, factsP_learnA] at cs
            have v1 := V.out _ hSw.fr
            simp only [roomP, and_assoc] at v1
            (go_simp) <;> (with_reducible rfl)
          case' r2_6 =>
            try simp only [Act.put, List.setIfInBounds_toArray, List.set_cons_zero, List.set_cons_succ]
          refine takeH (i := 6) (v := ?v2_7) rfl (by kernel_rfl) (by kernel_rfl) (by kernel_rfl) (fun _ _ _ h => h) (by rfl) ?y2_7 (O.sel [false, false, true]) ?r2_7
          case y2_7 =>
            intro WW hSw
            (go_simp) <;> (with_reducible rfl)
          case' r2_7 =>
            try simp only [Act.put, List.setIfInBounds_toArray, List.set_cons_zero, List.set_cons_succ]
          refine takeH (i := 7) (v := ?v2_8) rfl (by kernel_rfl) (by kernel_rfl) (by kernel_rfl) (fun _ _ _ h => h) (by rfl) ?y2_8 (O.sel [false, false, true]) ?r2_8
          case y2_8 =>
            intro WW hSw
            replace hSw : Mem _ _ WW _ := hSw
            have cs := hSw.facts
            simp only [sel, factsP, cellsP, roomP, foots_cons, foots_nil, foots_append, foot_pt, ptb, ptb_mapA, foot_mapA, factsP_mapA, foot_bun, List.append_nil, List.nil_append, List.cons_append, List.nodup_cons, List.nodup_nil, List.mem_cons, List.not_mem_nil, List.mem_singleton, List.forall_mem_cons, not_or, not_false_eq_true, and_true, true_and, or_false, false_or, forall_eq_or_imp, forall_eq, implies_true, Nat.zero_add, Nat.reduceAdd, and_assoc, ptb_propA, factsP_propA, ptb_learnA, factsP_learnA] at cs
            have v1 := V.out _ hSw.fr
            simp only [roomP, and_assoc] at v1
            (go_simp) <;> (with_reducible rfl)
          case' r2_8 =>
            try simp only [Act.put, List.setIfInBounds_toArray, List.set_cons_zero, List.set_cons_succ]
          refine wpAnyH_ready (rs := [8]) (by kernel_rfl) (by simp) ?_
          refine consH rfl (fun K hK => ?_) AllReadyH.nil
          have cs := O.facts
          simp only [factsP, cellsP, roomP, foots_cons, foots_nil, foots_append, foot_pt, ptb, ptb_mapA, foot_mapA, factsP_mapA, foot_bun, List.append_nil, List.nil_append, List.cons_append, List.nodup_cons, List.nodup_nil, List.mem_cons, List.not_mem_nil, List.mem_singleton, List.forall_mem_cons, not_or, not_false_eq_true, and_true, true_and, or_false, false_or, forall_eq_or_imp, forall_eq, implies_true, Nat.zero_add, Nat.reduceAdd, and_assoc, ptb_propA, factsP_propA, ptb_learnA, factsP_learnA] at cs
          have v1 := V.out _ O.fr
          simp only [roomP, and_assoc] at v1
          go_simp
          apply Mem.atCall
          case h => repeat' (first | (with_reducible exact O) | (with_reducible apply Mem.drew) | (with_reducible apply Mem.drewN) | (with_reducible apply Mem.ext) | (with_reducible apply Mem.alloc) | (with_reducible apply Mem.setCell) | (simp only [ptb, ptb_upd, foots_cons, List.mem_cons, World.size_alloc, size_ext, World.size_setCell, true_or, or_true, eq_self_iff_true]))
          intro w2_9 O'
          (try clear O)
          have O := O'
          clear O'
          (first | simp only [sel, rst, List.cons_append, List.nil_append, World.size_alloc, size_ext, World.size_setCell, size_setMap, World.size_drew, size_drewN, upd, List.set_cons_zero, List.set_cons_succ, if_true, if_false, reduceIte, not_false_eq_true, ne_lt0, ne_lt1, ne_lt2, ne_lt3, ne_lt4, cs] at O | simp only [sel, rst, List.cons_append, List.nil_append, World.size_alloc, size_ext, World.size_setCell, size_setMap, World.size_drew, size_drewN, upd, List.set_cons_zero, List.set_cons_succ, if_true, if_false, reduceIte, not_false_eq_true, ne_lt0, ne_lt1, ne_lt2, ne_lt3, ne_lt4] at O | skip)
          (try clear cs)
          (try clear v1)
          (try clear v2)
          (try clear v3)
          refine (PR.out _ (O.pre [false, false, false, true])).mono ?_
          rintro e w2_9' ⟨rfl, o⟩
          replace O := O.callp [false, false, false, true] o
          clear o
          simp only [put, List.cons_append, List.nil_append] at O
          go_wp2_with fail
          refine hK.out _ _ (O.sel [false, false, true]) (fun _ => ?_)
          clear hK K
          refine takeH (i := 9) (v := ?v2_10) rfl (by kernel_rfl) (by kernel_rfl) (by kernel_rfl) (fun _ _ _ h => h) (by rfl) ?y2_10 (O.sel [false, false, true]) ?r2_10
          case y2_10 =>
            intro WW hSw
            (go_simp) <;> (with_reducible rfl)
          case' r2_10 =>
            try simp only [Act.put, List.setIfInBounds_toArray, List.set_cons_zero, List.set_cons_succ]
          refine takeH (i := 10) (v := ?v2_11) rfl (by kernel_rfl) (by kernel_rfl) (by kernel_rfl) (fun _ _ _ h => h) (by rfl) ?y2_11 (O.sel [false, false, true]) ?r2_11
          case y2_11 =>
            intro WW hSw
            (go_simp) <;> (with_reducible rfl)
          case' r2_11 =>
            try simp only [Act.put, List.setIfInBounds_toArray, List.set_cons_zero, List.set_cons_succ]
          refine takeH (i := 11) (v := ?v2_12) rfl (by kernel_rfl) (by kernel_rfl) (by kernel_rfl) (fun _ _ _ h => h) (by rfl) ?y2_12 (O.sel [false, false, true]) ?r2_12
          case y2_12 =>
            intro WW hSw
            (go_simp) <;> (with_reducible rfl)
          case' r2_12 =>
            try simp only [Act.put, List.setIfInBounds_toArray, List.set_cons_zero, List.set_cons_succ]
          refine takeH (i := 12) (v := ?v2_13) rfl (by kernel_rfl) (by kernel_rfl) (by kernel_rfl) (fun _ _ _ h => h) (by rfl) ?y2_13 (O.sel [false, false, true]) ?r2_13
          case y2_13 =>
            intro WW hSw
            (go_simp) <;> (with_reducible rfl)
          case' r2_13 =>
            try simp only [Act.put, List.setIfInBounds_toArray, List.set_cons_zero, List.set_cons_succ]
          refine takeH (i := 13) (v := ?v2_14) rfl (by kernel_rfl) (by kernel_rfl) (by kernel_rfl) (fun _ _ _ h => h) (by rfl) ?y2_14 (O.sel [false, false, true]) ?r2_14
          case y2_14 =>
            intro WW hSw
            (go_simp) <;> (with_reducible rfl)
          case' r2_14 =>
            try simp only [Act.put, List.setIfInBounds_toArray, List.set_cons_zero, List.set_cons_succ]
          refine wpAnyH_done (by kernel_rfl) ?_ _
          go_wp2_with fail
          go_meet
          exact ⟨rfl, rfl, O⟩
        case rest =>
          clear O cs v1
          obtain ⟨rfl, rfl, O⟩ := hcut
          have SJ : Hid ((st.seen.map Value.bool)[j]? = some (.bool false)) := Lib.hid (by
            rw [List.getElem?_map]
            have h9 := HA.out.len9
            rw [List.getD_eq_getElem?_getD, List.getElem?_eq_getElem (by omega)] at hdf
            rw [List.getElem?_eq_getElem (by omega)]
            simpa using hdf)
          have hj9i : (j : Int) < 9 := by omega
          have hc60 : st.count ≤ 9 := by omega
          skip
          have cs := O.facts
          simp only [factsP, cellsP, roomP, foots_cons, foots_nil, foots_append, foot_pt, ptb, ptb_mapA, foot_mapA, factsP_mapA, foot_bun, List.append_nil, List.nil_append, List.cons_append, List.nodup_cons, List.nodup_nil, List.mem_cons, List.not_mem_nil, List.mem_singleton, List.forall_mem_cons, not_or, not_false_eq_true, and_true, true_and, or_false, false_or, forall_eq_or_imp, forall_eq, implies_true, Nat.zero_add, Nat.reduceAdd, and_assoc, ptb_propA, factsP_propA, ptb_learnA, factsP_learnA] at cs
          have v1 := V.out _ O.fr
          simp only [roomP, and_assoc] at v1
          have v2 := (Mem.ptCell O (b := w8.heap.size + 1) (cs := st.seen.map Value.bool) (t := 34) (by simp) SJ.out)
          try simp only [cellsQ, roomP, and_assoc, and_true, true_and, Nat.add_zero, Nat.zero_add, Nat.reduceAdd, factsP, cellsP, roomP, foots_cons, foots_nil, foots_append, foot_pt, ptb, ptb_mapA, foot_mapA, factsP_mapA, foot_bun, List.append_nil, List.nil_append, List.cons_append, List.nodup_cons, List.nodup_nil, List.mem_cons, List.not_mem_nil, List.mem_singleton, List.forall_mem_cons, not_or, not_false_eq_true, and_true, true_and, or_false, false_or, forall_eq_or_imp, forall_eq, implies_true, Nat.zero_add, Nat.reduceAdd, and_assoc, ptb_propA, factsP_propA, ptb_learnA, factsP_learnA] at v2
          go_upto_region 22 with fail
          first | apply Mem.atCall | apply Mem.atCode | apply Mem.atList
          case h => repeat' (first | (with_reducible exact O) | (with_reducible apply Mem.drew) | (with_reducible apply Mem.drewN) | (with_reducible apply Mem.ext) | (with_reducible apply Mem.alloc) | (with_reducible apply Mem.setCell) | (simp only [ptb, ptb_upd, foots_cons, List.mem_cons, World.size_alloc, size_ext, World.size_setCell, true_or, or_true, eq_self_iff_true]))
          case' k =>
            intro x3 O'
            (try clear O)
            have O := O'
            clear O'
            (first | simp only [sel, rst, List.cons_append, List.nil_append, World.size_alloc, size_ext, World.size_setCell, size_setMap, World.size_drew, size_drewN, upd, List.set_cons_zero, List.set_cons_succ, if_true, if_false, reduceIte, not_false_eq_true, ne_lt0, ne_lt1, ne_lt2, ne_lt3, ne_lt4, cs] at O | simp only [sel, rst, List.cons_append, List.nil_append, World.size_alloc, size_ext, World.size_setCell, size_setMap, World.size_drew, size_drewN, upd, List.set_cons_zero, List.set_cons_succ, if_true, if_false, reduceIte, not_false_eq_true, ne_lt0, ne_lt1, ne_lt2, ne_lt3, ne_lt4] at O | skip)
            (try clear cs)
            (try clear v1)
            (try clear v2)
            (try clear v3)
          obtain ⟨seen2, hs2⟩ : ∃ x, x = st.seen.set j true := ⟨_, rfl⟩
          have hs3 : (st.seen.map Value.bool).set j (.bool true) = seen2.map Value.bool := by rw [hs2, List.map_set]
          rw [hs3] at O
          obtain ⟨st2, hst2⟩ : ∃ x, x = st.next pn j ⟨oi, ⟨orr, on⟩, ov⟩ := ⟨_, rfl⟩
          rw [← hst2] at HAN
          have HST := Lib.hid hst2
          have HS2 := Lib.hid hs2
          clear hst2 hs2 hs3 SJ
          obtain ⟨scnt, hscnt⟩ : ∃ x, x = st.count := ⟨_, rfl⟩
          have HSC := Lib.hid hscnt
          rw [← hscnt] at hcl hc60 HAN
          try rw [← hscnt]
          clear hscnt
          go_cut [95] (fun s95 wc => s95 = .bool (oi && decide ((scnt : Int) + 1 ≤ pn / 2 + 1)) ∧ Mem w [] wc [.pt (w8.heap.size + 1 + 1) [.int .u32 st.top.r, .int .u8 st.top.n] 31, .pt (w8.heap.size + 1) (seen2.map Value.bool) 34, .pt w8.heap.size [.int .u32 7, .int .u8 3] 31, propA w3.heap.size (some mb) p2])
          case first =>
            skip
            cases oi
            all_goals
              have cs := O.facts
              simp only [factsP, cellsP, roomP, foots_cons, foots_nil, foots_append, foot_pt, ptb, ptb_mapA, foot_mapA, factsP_mapA, foot_bun, List.append_nil, List.nil_append, List.cons_append, List.nodup_cons, List.nodup_nil, List.mem_cons, List.not_mem_nil, List.mem_singleton, List.forall_mem_cons, not_or, not_false_eq_true, and_true, true_and, or_false, false_or, forall_eq_or_imp, forall_eq, implies_true, Nat.zero_add, Nat.reduceAdd, and_assoc, ptb_propA, factsP_propA, ptb_learnA, factsP_learnA] at cs
              have v1 := V.out _ O.fr
              simp only [roomP, and_assoc] at v1
              go_wp2_with fail
              go_meet
              exact ⟨by simp, O⟩
          case rest =>
            clear O
            obtain ⟨rfl, O⟩ := hcut
            have LS := Lib.hid (fun W => mLess st.top ⟨orr, on⟩ W)
            generalize hls : less st.top ⟨orr, on⟩ = ls at LS
            have HLS := Lib.hid hls
            clear hls
            simp only [Ballot.val] at LS
            have hd2 := HST.out
            unfold Seen.next at hd2
            rw [HLS.out, ← HSC.out, ← HS2.out] at hd2
            have HD2 := Lib.hid hd2
            clear hd2
            obtain ⟨c95, hc95⟩ : ∃ c, c = (oi && decide ((scnt : Int) + 1 ≤ pn / 2 + 1)) := ⟨_, rfl⟩
            rw [← hc95]
            have HC95 := Lib.hid hc95
            clear hc95
            have cs := O.facts
            simp only [factsP, cellsP, roomP, foots_cons, foots_nil, foots_append, foot_pt, ptb, ptb_mapA, foot_mapA, factsP_mapA, foot_bun, List.append_nil, List.nil_append, List.cons_append, List.nodup_cons, List.nodup_nil, List.mem_cons, List.not_mem_nil, List.mem_singleton, List.forall_mem_cons, not_or, not_false_eq_true, and_true, true_and, or_false, false_or, forall_eq_or_imp, forall_eq, implies_true, Nat.zero_add, Nat.reduceAdd, and_assoc, ptb_propA, factsP_propA, ptb_learnA, factsP_learnA] at cs
            have v1 := V.out _ O.fr
            simp only [roomP, and_assoc] at v1
            go_upto_if 95 with fail
            go_cut [12] (fun s12 wc => s12 = .bool st2.some_ ∧ Mem w [] wc [.pt (w8.heap.size + 1 + 1) [.int .u32 st2.top.r, .int .u8 st2.top.n] 31, .pt (w8.heap.size + 1) (seen2.map Value.bool) 34, .pt w8.heap.size [.int .u32 7, .int .u8 3] 31, propA w3.heap.size (some mb) p2])
            case first =>
              cases c95
              · have hn : ¬ (oi = true ∧ (scnt : Int) + 1 ≤ pn / 2 + 1) := by
                  have := HC95.out
                  intro h
                  simp [h.1] at this
                  omega
                have e2 := HD2.out
                simp only [hn, if_false] at e2
                subst e2
                have cs := O.facts
                simp only [factsP, cellsP, roomP, foots_cons, foots_nil, foots_append, foot_pt, ptb, ptb_mapA, foot_mapA, factsP_mapA, foot_bun, List.append_nil, List.nil_append, List.cons_append, List.nodup_cons, List.nodup_nil, List.mem_cons, List.not_mem_nil, List.mem_singleton, List.forall_mem_cons, not_or, not_false_eq_true, and_true, true_and, or_false, false_or, forall_eq_or_imp, forall_eq, implies_true, Nat.zero_add, Nat.reduceAdd, and_assoc, ptb_propA, factsP_propA, ptb_learnA, factsP_learnA] at cs
                have v1 := V.out _ O.fr
                simp only [roomP, and_assoc] at v1
                go_wp2_with fail
                go_meet
                exact ⟨rfl, O⟩
              · have hy : oi = true ∧ (scnt : Int) + 1 ≤ pn / 2 + 1 := by
                  have := HC95.out
                  simpa using this.symm
                have e2 := HD2.out
                simp only [hy, and_self, if_true] at e2
                clear hy
                skip
                have cs := O.facts
                simp only [factsP, cellsP, roomP, foots_cons, foots_nil, foots_append, foot_pt, ptb, ptb_mapA, foot_mapA, factsP_mapA, foot_bun, List.append_nil, List.nil_append, List.cons_append, List.nodup_cons, List.nodup_nil, List.mem_cons, List.not_mem_nil, List.mem_singleton, List.forall_mem_cons, not_or, not_false_eq_true, and_true, true_and, or_false, false_or, forall_eq_or_imp, forall_eq, implies_true, Nat.zero_add, Nat.reduceAdd, and_assoc, ptb_propA, factsP_propA, ptb_learnA, factsP_learnA] at cs
                have v1 := V.out _ O.fr
                simp only [roomP, and_assoc] at v1
                go_wp2_with fail
                apply region_quiet_mem (by kernel_rfl) (by kernel_rfl)
                case O => repeat' (first | (with_reducible exact O) | (with_reducible apply Mem.drew) | (with_reducible apply Mem.drewN) | (with_reducible apply Mem.ext) | (with_reducible apply Mem.alloc) | (with_reducible apply Mem.setCell) | (simp only [ptb, ptb_upd, foots_cons, List.mem_cons, World.size_alloc, size_ext, World.size_setCell, true_or, or_true, eq_self_iff_true]))
                case' h =>
                  intro y1 O'
                  (try clear O)
                  have O := O'
                  clear O'
                  (first | simp only [sel, rst, List.cons_append, List.nil_append, World.size_alloc, size_ext, World.size_setCell, size_setMap, World.size_drew, size_drewN, upd, List.set_cons_zero, List.set_cons_succ, if_true, if_false, reduceIte, not_false_eq_true, ne_lt0, ne_lt1, ne_lt2, ne_lt3, ne_lt4, cs] at O | simp only [sel, rst, List.cons_append, List.nil_append, World.size_alloc, size_ext, World.size_setCell, size_setMap, World.size_drew, size_drewN, upd, List.set_cons_zero, List.set_cons_succ, if_true, if_false, reduceIte, not_false_eq_true, ne_lt0, ne_lt1, ne_lt2, ne_lt3, ne_lt4] at O | skip)
                  (try clear cs)
                  (try clear v1)
                  (try clear v2)
                  (try clear v3)
                have cs := O.facts
                simp only [factsP, cellsP, roomP, foots_cons, foots_nil, foots_append, foot_pt, ptb, ptb_mapA, foot_mapA, factsP_mapA, foot_bun, List.append_nil, List.nil_append, List.cons_append, List.nodup_cons, List.nodup_nil, List.mem_cons, List.not_mem_nil, List.mem_singleton, List.forall_mem_cons, not_or, not_false_eq_true, and_true, true_and, or_false, false_or, forall_eq_or_imp, forall_eq, implies_true, Nat.zero_add, Nat.reduceAdd, and_assoc, ptb_propA, factsP_propA, ptb_learnA, factsP_learnA] at cs
                have v1 := V.out _ O.fr
                simp only [roomP, and_assoc] at v1
                repeat (go_big_quiet_step ((first | (go_at_call 13; exact quietMem (LS.out _)))))
                refine wpQuiet_nil ?_
                intro y2 hq
                (try clear cs)
                (try clear v1)
                (try clear v2)
                (try clear v3)
                replace O := O.qext hq
                clear hq
                generalize st.some_ = sm at e2 ⊢
                cases sm <;> cases ls <;> simp only [Bool.false_eq_true, Bool.true_eq_false, or_true, or_false, true_or, false_or, if_true, if_false] at e2 <;> subst e2
                all_goals
                  have cs := O.facts
                  simp only [factsP, cellsP, roomP, foots_cons, foots_nil, foots_append, foot_pt, ptb, ptb_mapA, foot_mapA, factsP_mapA, foot_bun, List.append_nil, List.nil_append, List.cons_append, List.nodup_cons, List.nodup_nil, List.mem_cons, List.not_mem_nil, List.mem_singleton, List.forall_mem_cons, not_or, not_false_eq_true, and_true, true_and, or_false, false_or, forall_eq_or_imp, forall_eq, implies_true, Nat.zero_add, Nat.reduceAdd, and_assoc, ptb_propA, factsP_propA, ptb_learnA, factsP_learnA] at cs
                  have v1 := V.out _ O.fr
                  simp only [roomP, and_assoc] at v1
                  go_wp2_with fail
                  go_meet
                  refine ⟨rfl, ?_⟩
                  apply Mem.to [true, true, true, true]
                  · repeat' (first | (with_reducible exact O) | (with_reducible apply Mem.drew) | (with_reducible apply Mem.drewN) | (with_reducible apply Mem.ext) | (with_reducible apply Mem.alloc) | (with_reducible apply Mem.setCell) | (simp only [ptb, ptb_upd, foots_cons, List.mem_cons, World.size_alloc, size_ext, World.size_setCell, true_or, or_true, eq_self_iff_true]))
                  · first | with_reducible rfl | (simp only [sel, rst, List.cons_append, List.nil_append, World.size_alloc, size_ext, World.size_setCell, size_setMap, World.size_drew, size_drewN, upd, List.set_cons_zero, List.set_cons_succ, if_true, if_false, reduceIte, not_false_eq_true, ne_lt0, ne_lt1, ne_lt2, ne_lt3, ne_lt4, cs]; done) | (simp only [sel, rst, List.cons_append, List.nil_append, World.size_alloc, size_ext, World.size_setCell, size_setMap, World.size_drew, size_drewN, upd, List.set_cons_zero, List.set_cons_succ, if_true, if_false, reduceIte, not_false_eq_true, ne_lt0, ne_lt1, ne_lt2, ne_lt3, ne_lt4]; done) | (simp only [sel, rst, List.cons_append, List.nil_append, World.size_alloc, size_ext, World.size_setCell, size_setMap, World.size_drew, size_drewN, upd, List.set_cons_zero, List.set_cons_succ, if_true, if_false, reduceIte, not_false_eq_true, ne_lt0, ne_lt1, ne_lt2, ne_lt3, ne_lt4, cs]; rfl) | (simp only [sel, rst, List.cons_append, List.nil_append, World.size_alloc, size_ext, World.size_setCell, size_setMap, World.size_drew, size_drewN, upd, List.set_cons_zero, List.set_cons_succ, if_true, if_false, reduceIte, not_false_eq_true, ne_lt0, ne_lt1, ne_lt2, ne_lt3, ne_lt4]; rfl)
            case rest =>
              clear O LS HLS
              obtain ⟨rfl, O⟩ := hcut
              have hcnt : st2.count = scnt + 1 := by rw [HD2.out]; split <;> rfl
              have hsee : st2.seen = seen2 := by rw [HD2.out]; split <;> rfl
              rw [← hsee] at O
              skip
              have HCNT := Lib.hid hcnt
              clear hcnt hsee HD2 HST HC95
              have hR := fun W (h : Mem w [] W [.pt (w8.heap.size + 1 + 1) [.int .u32 st2.top.r, .int .u8 st2.top.n] 31, .pt (w8.heap.size + 1) (st2.seen.map Value.bool) 34, .pt w8.heap.size [.int .u32 7, .int .u8 3] 31, propA w3.heap.size (some mb) p2]) => (⟨k + 1, p2, st2, by omega, by omega, by rw [HCNT.out]; go_num, rfl, by go_num, h, Lib.hid (by rw [HTK.out]; exact HAN.out.1)⟩ : ∃ (k' : Nat) (p : Prop11) (st : Seen), k' ≤ l.length ∧ k' ≤ 60 ∧ Value.int .i64 (scnt + 1) = .int .i64 st.count ∧ Value.bool st2.some_ = .bool st.some_ ∧ Value.int .i64 ((k : Int) + 1) = .int .i64 k' ∧
    Mem w [] W [.pt (w8.heap.size + 1 + 1) [.int .u32 st.top.r, .int .u8 st.top.n] 31, .pt (w8.heap.size + 1) (st.seen.map Value.bool) 34, .pt w8.heap.size [.int .u32 7, .int .u8 3] 31, propA w3.heap.size (some mb) p] ∧ Hid (Adopt pn (l.take k') p st))
              have HR := Lib.hid hR
              clear hR
              have h1 := HAN.out.2.1
              have HTL := Lib.hid HAN.out.2.2
              clear HAN
              by_cases hq : (scnt : Int) + 1 = pn / 2 + 1
              · have hqb : ((scnt : Int) + 1 == pn / 2 + 1) = true := by simp [hq]
                simp only [hq, decide_true] at h1
                subst h1
                cases hso : st2.some_
                · have hrv := (HTL.out hq).1 hso
                  subst hrv
                  rw [hso] at HR
                  clear hso
                  simp only [ownV]
                  have HQ := Lib.hid hq
                  clear hq
                  have cs := O.facts
                  simp only [factsP, cellsP, roomP, foots_cons, foots_nil, foots_append, foot_pt, ptb, ptb_mapA, foot_mapA, factsP_mapA, foot_bun, List.append_nil, List.nil_append, List.cons_append, List.nodup_cons, List.nodup_nil, List.mem_cons, List.not_mem_nil, List.mem_singleton, List.forall_mem_cons, not_or, not_false_eq_true, and_true, true_and, or_false, false_or, forall_eq_or_imp, forall_eq, implies_true, Nat.zero_add, Nat.reduceAdd, and_assoc, ptb_propA, factsP_propA, ptb_learnA, factsP_learnA] at cs
                  go_wp2_with fail
                  go_roundw
                  case rel => exact HR.out _ O
                  case measure => simp [intOf]; omega
                · have htl := (HTL.out hq).2 hso
                  rw [hso] at HR
                  have HT2 := Lib.hid htl
                  have HQ := Lib.hid hq
                  clear hso htl hq
                  have cs := O.facts
                  simp only [factsP, cellsP, roomP, foots_cons, foots_nil, foots_append, foot_pt, ptb, ptb_mapA, foot_mapA, factsP_mapA, foot_bun, List.append_nil, List.nil_append, List.cons_append, List.nodup_cons, List.nodup_nil, List.mem_cons, List.not_mem_nil, List.mem_singleton, List.forall_mem_cons, not_or, not_false_eq_true, and_true, true_and, or_false, false_or, forall_eq_or_imp, forall_eq, implies_true, Nat.zero_add, Nat.reduceAdd, and_assoc, ptb_propA, factsP_propA, ptb_learnA, factsP_learnA] at cs
                  go_wp2_with fail
                  clear cs v1
                  go_loopw [18, 19] (fun s18 s19 wr => ∃ (q : Nat) (fnd : Bool), q ≤ k + 1 ∧ s18 = .bool fnd ∧ s19 = .int .i64 q ∧ Mem w [] wr [.pt (w8.heap.size + 1 + 1) [.int .u32 st2.top.r, .int .u8 st2.top.n] 31, .pt (w8.heap.size + 1) (st2.seen.map Value.bool) 34, .pt w8.heap.size [.int .u32 7, .int .u8 3] 31, propA w3.heap.size (some mb) p2] ∧ Hid (∀ (i : Nat) (o : ToldR), i < q → l[i]? = some o → o.a.is = true → o.a.b = st2.top → o.a.v.toList = rv.toList → fnd = true)) (fun _ s19 _ => k + 1 - (intOf s19).toNat)
                  case atStart => exact ⟨0, false, by omega, rfl, rfl, O, Lib.hid (fun i o h => by omega)⟩
                  case round =>
                    clear O
                    obtain ⟨q, fnd, hqk, rfl, rfl, O, HF⟩ := hrel
                    by_cases hql : q < k + 1
                    · have hql2 : q < l.length := by omega
                      obtain ⟨b2, off2, hbo, hbb2, hq2⟩ := HC.out q _ (List.getElem?_eq_getElem hql2)
                      injection hbo with hbo
                      injection hbo with hbo1 hbo2
                      subst hbo1 hbo2
                      have V2 := Lib.hid (fun W (h : Fr [] w W) => arg_view hbb hq2 h)
                      have hlq : l[q]? = some l[q] := List.getElem?_eq_getElem hql2
                      have HLQ := Lib.hid hlq
                      clear hlq hq2 hbb2
                      generalize l[q] = o2 at *
                      obtain ⟨of2, ⟨oi2, ⟨orr2, on2⟩, ov2⟩⟩ := o2
                      simp only [toldCells, cellsQ, Nat.add_zero, Nat.reduceAdd, and_true, Nat.zero_add] at V2
                      skip
                      have cs := O.facts
                      simp only [factsP, cellsP, roomP, foots_cons, foots_nil, foots_append, foot_pt, ptb, ptb_mapA, foot_mapA, factsP_mapA, foot_bun, List.append_nil, List.nil_append, List.cons_append, List.nodup_cons, List.nodup_nil, List.mem_cons, List.not_mem_nil, List.mem_singleton, List.forall_mem_cons, not_or, not_false_eq_true, and_true, true_and, or_false, false_or, forall_eq_or_imp, forall_eq, implies_true, Nat.zero_add, Nat.reduceAdd, and_assoc, ptb_propA, factsP_propA, ptb_learnA, factsP_learnA] at cs
                      have v1 := V2.out _ O.fr
                      simp only [roomP, and_assoc] at v1
                      go_upto_block 3 with fail
                      have hwk : IntKind.i64.wrap ((q : Int) + 1) = q + 1 := by simp [IntKind.wrap, IntKind.signed, IntKind.bits]; omega
                      have HWK := Lib.hid hwk
                      clear hwk
                      obtain ⟨⟨str, stn⟩, hstt⟩ : ∃ b, b = st2.top := ⟨_, rfl⟩
                      have HSTT := Lib.hid hstt
                      rw [← hstt] at O
                      clear hstt
                      simp only at O
                      go_cut [18] (fun s18 wc => (∃ f2 : Bool, s18 = .bool f2 ∧ Hid (fnd = true ∨ (oi2 = true ∧ orr2 = str ∧ on2 = stn ∧ ov2.toList = rv.toList) → f2 = true)) ∧ Mem w [] wc [.pt (w8.heap.size + 1 + 1) [.int .u32 str, .int .u8 stn] 31, .pt (w8.heap.size + 1) (st2.seen.map Value.bool) 34, .pt w8.heap.size [.int .u32 7, .int .u8 3] 31, propA w3.heap.size (some mb) p2])
                      case first =>
                        have cs := O.facts
                        simp only [factsP, cellsP, roomP, foots_cons, foots_nil, foots_append, foot_pt, ptb, ptb_mapA, foot_mapA, factsP_mapA, foot_bun, List.append_nil, List.nil_append, List.cons_append, List.nodup_cons, List.nodup_nil, List.mem_cons, List.not_mem_nil, List.mem_singleton, List.forall_mem_cons, not_or, not_false_eq_true, and_true, true_and, or_false, false_or, forall_eq_or_imp, forall_eq, implies_true, Nat.zero_add, Nat.reduceAdd, and_assoc, ptb_propA, factsP_propA, ptb_learnA, factsP_learnA] at cs
                        have v1 := V2.out _ O.fr
                        simp only [roomP, and_assoc] at v1
                        go_upto_region 34 with fail
                        (try clear cs)
                        (try clear v1)
                        cases fnd
                        · cases oi2
                          · apply region_quiet_mem (by kernel_rfl) (by kernel_rfl)
                            case O => repeat' (first | (with_reducible exact O) | (with_reducible apply Mem.drew) | (with_reducible apply Mem.drewN) | (with_reducible apply Mem.ext) | (with_reducible apply Mem.alloc) | (with_reducible apply Mem.setCell) | (simp only [ptb, ptb_upd, foots_cons, List.mem_cons, World.size_alloc, size_ext, World.size_setCell, true_or, or_true, eq_self_iff_true]))
                            case' h =>
                              intro z1 O'
                              (try clear O)
                              have O := O'
                              clear O'
                              (first | simp only [sel, rst, List.cons_append, List.nil_append, World.size_alloc, size_ext, World.size_setCell, size_setMap, World.size_drew, size_drewN, upd, List.set_cons_zero, List.set_cons_succ, if_true, if_false, reduceIte, not_false_eq_true, ne_lt0, ne_lt1, ne_lt2, ne_lt3, ne_lt4, cs] at O | simp only [sel, rst, List.cons_append, List.nil_append, World.size_alloc, size_ext, World.size_setCell, size_setMap, World.size_drew, size_drewN, upd, List.set_cons_zero, List.set_cons_succ, if_true, if_false, reduceIte, not_false_eq_true, ne_lt0, ne_lt1, ne_lt2, ne_lt3, ne_lt4] at O | skip)
                              (try clear cs)
                              (try clear v1)
                              (try clear v2)
                              (try clear v3)
                            have cs := O.facts
                            simp only [factsP, cellsP, roomP, foots_cons, foots_nil, foots_append, foot_pt, ptb, ptb_mapA, foot_mapA, factsP_mapA, foot_bun, List.append_nil, List.nil_append, List.cons_append, List.nodup_cons, List.nodup_nil, List.mem_cons, List.not_mem_nil, List.mem_singleton, List.forall_mem_cons, not_or, not_false_eq_true, and_true, true_and, or_false, false_or, forall_eq_or_imp, forall_eq, implies_true, Nat.zero_add, Nat.reduceAdd, and_assoc, ptb_propA, factsP_propA, ptb_learnA, factsP_learnA] at cs
                            have v1 := V2.out _ O.fr
                            simp only [roomP, and_assoc] at v1
                            repeat (go_big_quiet_step ((fail)))
                            refine wpQuiet_nil ?_
                            intro z2 hq
                            (try clear cs)
                            (try clear v1)
                            (try clear v2)
                            (try clear v3)
                            replace O := O.qext hq
                            clear hq
                            go_wp2_with fail
                            go_meet
                            exact ⟨⟨_, rfl, Lib.hid (by simp_all)⟩, O⟩
                          · by_cases hb1 : orr2 = str
                            · subst hb1
                              by_cases hb2 : on2 = stn
                              · subst hb2
                                apply region_quiet_mem (by kernel_rfl) (by kernel_rfl)
                                case O => repeat' (first | (with_reducible exact O) | (with_reducible apply Mem.drew) | (with_reducible apply Mem.drewN) | (with_reducible apply Mem.ext) | (with_reducible apply Mem.alloc) | (with_reducible apply Mem.setCell) | (simp only [ptb, ptb_upd, foots_cons, List.mem_cons, World.size_alloc, size_ext, World.size_setCell, true_or, or_true, eq_self_iff_true]))
                                case' h =>
                                  intro z1 O'
                                  (try clear O)
                                  have O := O'
                                  clear O'
                                  (first | simp only [sel, rst, List.cons_append, List.nil_append, World.size_alloc, size_ext, World.size_setCell, size_setMap, World.size_drew, size_drewN, upd, List.set_cons_zero, List.set_cons_succ, if_true, if_false, reduceIte, not_false_eq_true, ne_lt0, ne_lt1, ne_lt2, ne_lt3, ne_lt4, cs] at O | simp only [sel, rst, List.cons_append, List.nil_append, World.size_alloc, size_ext, World.size_setCell, size_setMap, World.size_drew, size_drewN, upd, List.set_cons_zero, List.set_cons_succ, if_true, if_false, reduceIte, not_false_eq_true, ne_lt0, ne_lt1, ne_lt2, ne_lt3, ne_lt4] at O | skip)
                                  (try clear cs)
                                  (try clear v1)
                                  (try clear v2)
                                  (try clear v3)
                                have cs := O.facts
                                simp only [factsP, cellsP, roomP, foots_cons, foots_nil, foots_append, foot_pt, ptb, ptb_mapA, foot_mapA, factsP_mapA, foot_bun, List.append_nil, List.nil_append, List.cons_append, List.nodup_cons, List.nodup_nil, List.mem_cons, List.not_mem_nil, List.mem_singleton, List.forall_mem_cons, not_or, not_false_eq_true, and_true, true_and, or_false, false_or, forall_eq_or_imp, forall_eq, implies_true, Nat.zero_add, Nat.reduceAdd, and_assoc, ptb_propA, factsP_propA, ptb_learnA, factsP_learnA] at cs
                                have v1 := V2.out _ O.fr
                                simp only [roomP, and_assoc] at v1
                                repeat (go_big_quiet_step ((fail)))
                                refine wpQuiet_nil ?_
                                intro z2 hq
                                (try clear cs)
                                (try clear v1)
                                (try clear v2)
                                (try clear v3)
                                replace O := O.qext hq
                                clear hq
                                go_wp2_with fail
                                go_meet
                                exact ⟨⟨_, rfl, Lib.hid (by simp_all)⟩, O⟩
                              · apply region_quiet_mem (by kernel_rfl) (by kernel_rfl)
                                case O => repeat' (first | (with_reducible exact O) | (with_reducible apply Mem.drew) | (with_reducible apply Mem.drewN) | (with_reducible apply Mem.ext) | (with_reducible apply Mem.alloc) | (with_reducible apply Mem.setCell) | (simp only [ptb, ptb_upd, foots_cons, List.mem_cons, World.size_alloc, size_ext, World.size_setCell, true_or, or_true, eq_self_iff_true]))
                                case' h =>
                                  intro z1 O'
                                  (try clear O)
                                  have O := O'
                                  clear O'
                                  (first | simp only [sel, rst, List.cons_append, List.nil_append, World.size_alloc, size_ext, World.size_setCell, size_setMap, World.size_drew, size_drewN, upd, List.set_cons_zero, List.set_cons_succ, if_true, if_false, reduceIte, not_false_eq_true, ne_lt0, ne_lt1, ne_lt2, ne_lt3, ne_lt4, cs] at O | simp only [sel, rst, List.cons_append, List.nil_append, World.size_alloc, size_ext, World.size_setCell, size_setMap, World.size_drew, size_drewN, upd, List.set_cons_zero, List.set_cons_succ, if_true, if_false, reduceIte, not_false_eq_true, ne_lt0, ne_lt1, ne_lt2, ne_lt3, ne_lt4] at O | skip)
                                  (try clear cs)
                                  (try clear v1)
                                  (try clear v2)
                                  (try clear v3)
                                have cs := O.facts
                                simp only [factsP, cellsP, roomP, foots_cons, foots_nil, foots_append, foot_pt, ptb, ptb_mapA, foot_mapA, factsP_mapA, foot_bun, List.append_nil, List.nil_append, List.cons_append, List.nodup_cons, List.nodup_nil, List.mem_cons, List.not_mem_nil, List.mem_singleton, List.forall_mem_cons, not_or, not_false_eq_true, and_true, true_and, or_false, false_or, forall_eq_or_imp, forall_eq, implies_true, Nat.zero_add, Nat.reduceAdd, and_assoc, ptb_propA, factsP_propA, ptb_learnA, factsP_learnA] at cs
                                have v1 := V2.out _ O.fr
                                simp only [roomP, and_assoc] at v1
                                repeat (go_big_quiet_step ((fail)))
                                refine wpQuiet_nil ?_
                                intro z2 hq
                                (try clear cs)
                                (try clear v1)
                                (try clear v2)
                                (try clear v3)
                                replace O := O.qext hq
                                clear hq
                                go_wp2_with fail
                                go_meet
                                exact ⟨⟨_, rfl, Lib.hid (by simp_all)⟩, O⟩
                            · apply region_quiet_mem (by kernel_rfl) (by kernel_rfl)
                              case O => repeat' (first | (with_reducible exact O) | (with_reducible apply Mem.drew) | (with_reducible apply Mem.drewN) | (with_reducible apply Mem.ext) | (with_reducible apply Mem.alloc) | (with_reducible apply Mem.setCell) | (simp only [ptb, ptb_upd, foots_cons, List.mem_cons, World.size_alloc, size_ext, World.size_setCell, true_or, or_true, eq_self_iff_true]))
                              case' h =>
                                intro z1 O'
                                (try clear O)
                                have O := O'
                                clear O'
                                (first | simp only [sel, rst, List.cons_append, List.nil_append, World.size_alloc, size_ext, World.size_setCell, size_setMap, World.size_drew, size_drewN, upd, List.set_cons_zero, List.set_cons_succ, if_true, if_false, reduceIte, not_false_eq_true, ne_lt0, ne_lt1, ne_lt2, ne_lt3, ne_lt4, cs] at O | simp only [sel, rst, List.cons_append, List.nil_append, World.size_alloc, size_ext, World.size_setCell, size_setMap, World.size_drew, size_drewN, upd, List.set_cons_zero, List.set_cons_succ, if_true, if_false, reduceIte, not_false_eq_true, ne_lt0, ne_lt1, ne_lt2, ne_lt3, ne_lt4] at O | skip)
                                (try clear cs)
                                (try clear v1)
                                (try clear v2)
                                (try clear v3)
                              have cs := O.facts
                              simp only [factsP, cellsP, roomP, foots_cons, foots_nil, foots_append, foot_pt, ptb, ptb_mapA, foot_mapA, factsP_mapA, foot_bun, List.append_nil, List.nil_append, List.cons_append, List.nodup_cons, List.nodup_nil, List.mem_cons, List.not_mem_nil, List.mem_singleton, List.forall_mem_cons, not_or, not_false_eq_true, and_true, true_and, or_false, false_or, forall_eq_or_imp, forall_eq, implies_true, Nat.zero_add, Nat.reduceAdd, and_assoc, ptb_propA, factsP_propA, ptb_learnA, factsP_learnA] at cs
                              have v1 := V2.out _ O.fr
                              simp only [roomP, and_assoc] at v1
                              repeat (go_big_quiet_step ((fail)))
                              refine wpQuiet_nil ?_
                              intro z2 hq
                              (try clear cs)
                              (try clear v1)
                              (try clear v2)
                              (try clear v3)
                              replace O := O.qext hq
                              clear hq
                              go_wp2_with fail
                              go_meet
                              exact ⟨⟨_, rfl, Lib.hid (by simp_all)⟩, O⟩
                        · apply region_quiet_mem (by kernel_rfl) (by kernel_rfl)
                          case O => repeat' (first | (with_reducible exact O) | (with_reducible apply Mem.drew) | (with_reducible apply Mem.drewN) | (with_reducible apply Mem.ext) | (with_reducible apply Mem.alloc) | (with_reducible apply Mem.setCell) | (simp only [ptb, ptb_upd, foots_cons, List.mem_cons, World.size_alloc, size_ext, World.size_setCell, true_or, or_true, eq_self_iff_true]))
                          case' h =>
                            intro z1 O'
                            (try clear O)
                            have O := O'
                            clear O'
                            (first | simp only [sel, rst, List.cons_append, List.nil_append, World.size_alloc, size_ext, World.size_setCell, size_setMap, World.size_drew, size_drewN, upd, List.set_cons_zero, List.set_cons_succ, if_true, if_false, reduceIte, not_false_eq_true, ne_lt0, ne_lt1, ne_lt2, ne_lt3, ne_lt4, cs] at O | simp only [sel, rst, List.cons_append, List.nil_append, World.size_alloc, size_ext, World.size_setCell, size_setMap, World.size_drew, size_drewN, upd, List.set_cons_zero, List.set_cons_succ, if_true, if_false, reduceIte, not_false_eq_true, ne_lt0, ne_lt1, ne_lt2, ne_lt3, ne_lt4] at O | skip)
                            (try clear cs)
                            (try clear v1)
                            (try clear v2)
                            (try clear v3)
                          have cs := O.facts
                          simp only [factsP, cellsP, roomP, foots_cons, foots_nil, foots_append, foot_pt, ptb, ptb_mapA, foot_mapA, factsP_mapA, foot_bun, List.append_nil, List.nil_append, List.cons_append, List.nodup_cons, List.nodup_nil, List.mem_cons, List.not_mem_nil, List.mem_singleton, List.forall_mem_cons, not_or, not_false_eq_true, and_true, true_and, or_false, false_or, forall_eq_or_imp, forall_eq, implies_true, Nat.zero_add, Nat.reduceAdd, and_assoc, ptb_propA, factsP_propA, ptb_learnA, factsP_learnA] at cs
                          have v1 := V2.out _ O.fr
                          simp only [roomP, and_assoc] at v1
                          repeat (go_big_quiet_step ((fail)))
                          refine wpQuiet_nil ?_
                          intro z2 hq
                          (try clear cs)
                          (try clear v1)
                          (try clear v2)
                          (try clear v3)
                          replace O := O.qext hq
                          clear hq
                          go_wp2_with fail
                          go_meet
                          exact ⟨⟨_, rfl, Lib.hid (by simp_all)⟩, O⟩
                      case rest =>
                        clear O
                        obtain ⟨⟨f2, rfl, HF2⟩, O⟩ := hcut
                        skip
                        have cs := O.facts
                        simp only [factsP, cellsP, roomP, foots_cons, foots_nil, foots_append, foot_pt, ptb, ptb_mapA, foot_mapA, factsP_mapA, foot_bun, List.append_nil, List.nil_append, List.cons_append, List.nodup_cons, List.nodup_nil, List.mem_cons, List.not_mem_nil, List.mem_singleton, List.forall_mem_cons, not_or, not_false_eq_true, and_true, true_and, or_false, false_or, forall_eq_or_imp, forall_eq, implies_true, Nat.zero_add, Nat.reduceAdd, and_assoc, ptb_propA, factsP_propA, ptb_learnA, factsP_learnA] at cs
                        go_wp2_with fail
                        go_roundw
                        case rel =>
                          refine ⟨q + 1, f2, by omega, rfl, by go_num, by rw [← HSTT.out]; exact O, Lib.hid (fun i o hi ho e1 e2 e3 => HF2.out ?_)⟩
                          by_cases hiq : i < q
                          · exact .inl (HF.out i o hiq ho e1 e2 e3)
                          · obtain rfl : i = q := by omega
                            rw [HLQ.out] at ho
                            injection ho with ho
                            subst ho
                            rw [← HSTT.out] at e2
                            simp only [Ballot.mk.injEq] at e2
                            exact .inr ⟨e1, e2.1, e2.2, e3⟩
                        case measure => simp [intOf]; omega
                    · obtain rfl : q = k + 1 := by omega
                      have hf : fnd = true := by
                        obtain ⟨o, ho, e1, e2, e3⟩ := HT2.out
                        rw [← HTK.out] at ho
                        obtain ⟨i, hi, hio⟩ := List.getElem_of_mem ho
                        have hi2 : i < k + 1 := by have := List.length_take_le (k + 1) l; omega
                        rw [List.getElem_take] at hio
                        exact HF.out i o hi2 (by rw [← hio]; exact List.getElem?_eq_getElem _) e1 e2 e3
                      subst hf
                      clear HF
                      skip
                      have cs := O.facts
                      simp only [factsP, cellsP, roomP, foots_cons, foots_nil, foots_append, foot_pt, ptb, ptb_mapA, foot_mapA, factsP_mapA, foot_bun, List.append_nil, List.nil_append, List.cons_append, List.nodup_cons, List.nodup_nil, List.mem_cons, List.not_mem_nil, List.mem_singleton, List.forall_mem_cons, not_or, not_false_eq_true, and_true, true_and, or_false, false_or, forall_eq_or_imp, forall_eq, implies_true, Nat.zero_add, Nat.reduceAdd, and_assoc, ptb_propA, factsP_propA, ptb_learnA, factsP_learnA] at cs
                      go_wp2_with fail
                      go_roundw
                      case rel => exact HR.out _ O
                      case measure => simp [intOf]; omega
              · have hqb : ((scnt : Int) + 1 == pn / 2 + 1) = false := by simp [hq]
                simp only [hq, decide_false] at h1
                subst h1
                have HQ := Lib.hid hq
                clear hq
                skip
                have cs := O.facts
                simp only [factsP, cellsP, roomP, foots_cons, foots_nil, foots_append, foot_pt, ptb, ptb_mapA, foot_mapA, factsP_mapA, foot_bun, List.append_nil, List.nil_append, List.cons_append, List.nodup_cons, List.nodup_nil, List.mem_cons, List.not_mem_nil, List.mem_singleton, List.forall_mem_cons, not_or, not_false_eq_true, and_true, true_and, or_false, false_or, forall_eq_or_imp, forall_eq, implies_true, Nat.zero_add, Nat.reduceAdd, and_assoc, ptb_propA, factsP_propA, ptb_learnA, factsP_learnA] at cs
                go_wp2_with fail
                go_roundw
                case rel => exact HR.out _ O
                case measure => simp [intOf]; omega
set_option maxRecDepth 100000 in
theorem readProposerAdopts_3 : Try.prog.readableRec 3 = true ∧ 3 < Try.prog.types.size := ⟨by kernel_rfl, of_decide_eq_true (by kernel_rfl)⟩
set_option maxRecDepth 100000 in
theorem readProposerAdopts_22 : Try.prog.readableRec 22 = true ∧ 22 < Try.prog.types.size := ⟨by kernel_rfl, of_decide_eq_true (by kernel_rfl)⟩
set_option maxRecDepth 100000 in
theorem ownProposerAdopts : ownKnob Try.prog.godebug = none := by kernel_rfl
set_option maxRecDepth 100000 in
theorem laidOutProposerAdopts : laidOutB Try.prog = true := by kernel_rfl
set_option maxRecDepth 100000 in
theorem contractProposerAdopts (H : Type) (enc : TypeId × Value → H) (W : World) (base : Nat) (args : Array Value) (ds gs : List (DataW H)) (before : List MemPlace)
    (hval : ∀ (j : Nat) t v, Try.f3.params[j]? = some t → args[j]? = some v → Value.okWide Try.prog W .any base t v)
    (hW : DataW.Whole enc Try.prog Try.f3.params.toList Rows.proposerAdoptsSpec.vars false W args.toList ds gs before) (hk : Rows.uptoSmall H (ds ++ gs) = true) :
    Calls Try.prog 3 args W fun e W' => ∃ v, e = .returned v ∧ Rows.proposerAdoptsSpec.post enc Try.prog Try.f3 false true false false W args v W' := by
  have hfin : ∀ W', Below W.heap.size W W' → Rows.proposerAdoptsSpec.post enc Try.prog Try.f3 false true false false W args (.bool true) W' := fun W' hb =>
    post_of_walk (n := 2) (boolT := 4) rfl (fun ds h => by match ds, h with | [a0, a1], _ => exact ⟨rfl, rfl, rfl⟩) rfl rfl Try.underlying4 laidOutProposerAdopts (fun t ht => by rw [Try.params3] at ht; simp at ht; rcases ht with rfl | rfl; exact readProposerAdopts_3; exact readProposerAdopts_22) hW hb
  have hN : Rows.uptoBulkAll (ds ++ gs) ≤ 1048576 := of_decide_eq_true hk
  obtain ⟨p, q, hA, hV, rfl, hfz, hnd⟩ := hW
  rw [Try.params3] at hA hval
  obtain ⟨v0, vs0, d0, ds0, p0, q0, hargs, rfl, rfl, h0, r0⟩ := trodAll_cons hA
  obtain ⟨v1, vs1, d1, ds1, p1, q1, rfl, rfl, rfl, h1, r1⟩ := trodAll_cons r0
  obtain ⟨rfl, rfl, rfl⟩ := trodAll_nil r1
  obtain rfl : args = #[v0, v1] := by cases args; simp_all
  simp only [List.cons_append, List.nil_append, Rows.uptoBulkAll] at hN
  obtain ⟨x0, rfl⟩ := okWide_int Try.underlying3 (hval 0 3 v0 rfl rfl)
  obtain ⟨f0, g0⟩ := h0
  have ty0 := typed_of_trod (N := 1048576) f0 _ _ _ g0 (by simp only; omega)
  obtain ⟨A1, len1, cap1, rfl⟩ := okWide_slice Try.underlying22 (hval 1 22 v1 rfl rfl)
  obtain ⟨f1, g1⟩ := h1
  have ty1 := typed_of_trod (N := 1048576) f1 _ _ _ g1 (by simp only; omega)
  obtain ⟨c, hc1, hc2⟩ := typed_int Try.underlying3 ty0
  obtain rfl : x0 = c := by simpa [Value.cells] using hc1
  obtain ⟨l, hl, hok⟩ := read_list (cs := toldCells) (ok := toldOk) Try.underlying22 cells_told (by omega) (fun f' l' h => read_told h) (Nat.le_refl _) ty1
  exact (walkAdopt x0 _ l W (bound64 hc2) hl hok).mono fun e W' ⟨he, hy⟩ => ⟨_, he, hfin W' hy⟩

set_option maxRecDepth 100000 in
theorem liftedProposerAdopts (os : Os) (started : os.Started) (H : Type) (enc : TypeId × Value → H) (F : Stop.Interp) :
    ReturnsInHanded {} Try.checked os 3 .any ((Rows.OpenSpec.upto Rows.proposerAdoptsSpec).pre6 enc Try.prog Try.f3 Rows.proposerAdoptsUptoRow.domain false) (((Rows.OpenSpec.upto Rows.proposerAdoptsSpec).at F).post enc Try.prog Try.f3 false true false false) := by
  refine returnsInHanded_of_cond (C := Try.checked) (s := Rows.OpenSpec.upto Rows.proposerAdoptsSpec) (k := Rows.uptoSmall) rfl ownProposerAdopts started (by kernel_rfl) Try.func3
    (OpenSpec.witness (enc := enc) (C := Try.checked) (s := Rows.OpenSpec.upto Rows.proposerAdoptsSpec) (k := Rows.uptoSmall) rfl false
      ⟨#[], #[.int .i64 0, .slice none 0 0], []⟩ 8 (by kernel_rfl) (by kernel_rfl) (by kernel_rfl)
      (x := ([.lit (.int .i64 0), .nil], [], [])) (by kernel_rfl) rfl (by kernel_rfl)) ?_
  intro W base args ds gs before hval hW _ hk _
  exact contractProposerAdopts H enc W base args ds gs before hval hW hk

theorem ProposerAdopts_holds : Rows.ProposerAdoptsUptoSaid :=
  OpenClaim.holds_of_cond 3 Try.f3 rfl rfl rfl rfl rfl rfl rfl ⟨rfl, rfl, rfl, rfl, rfl⟩ rfl rfl rfl rfl rfl (by kernel_rfl) Try.func3 (by kernel_rfl)
    (of_decide_eq_true (by kernel_rfl)) (by unfold Func.isWrapper; first | (rw [if_pos (by decide +kernel)]; kernel_rfl) | (rw [if_neg (by decide +kernel)]; exact ⟨rfl, rfl⟩))
    (fun os started H enc _ F => liftedProposerAdopts os started H enc F)
end Go.Proofs.Ytkhpikjmhamppaa
