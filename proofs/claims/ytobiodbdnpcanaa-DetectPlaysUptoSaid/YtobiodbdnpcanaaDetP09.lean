/- WALK: a detector's Suspects. -/
import Derived.Test.YtobiodbdnpcanaaDet09
set_option linter.unusedVariables false
set_option linter.unusedSimpArgs false
namespace Go.Proofs.Ytobiodbdnpcanaa
open Go.RowKit Go.Tk
theorem intTy : ElTy Try.prog 22 3 1 intCells 0 := ⟨Try.underlying22, by kernel_rfl, by kernel_rfl, by omega, fun _ => rfl, fun a u h => by simp [intCells] at h; subst h; rfl⟩
def suspects9 (m : List (Int × Peer)) (now : Int) : List Int := ((keysOf m).mergeSort leB).filter (fun id => timeOk now && badP ((mget m id).getD noPeer) now)
set_option maxRecDepth 100000 in
set_option maxHeartbeats 8000000 in
theorem d_Suspects (w : World) (db mb : Nat) (g : Int) (m : List (Int × Peer)) (h : Pre w (detL db mb g m)) (now : Int) (hn : -9223372036854775808 ≤ now ∧ now ≤ 9223372036854775807) (hsz : m.length ≤ 1000) (hok : ∀ q ∈ m, q.2.ok) (hkey : ∀ q ∈ m, intK.ok q.1) :
    Calls Try.prog 10 #[.pointer (some ⟨db, 0, none⟩), .int .i64 now] w (fun e w' => ∃ (A : Option Addr) (c : Nat), e = .returned (.slice A (suspects9 m now).length c) ∧ Mem w [] w' [listA 3 1 intCells A c (suspects9 m now)]) := by
  have O : Mem w [] w [] := Mem.begin
  have CT := Lib.hid (fun W => d_time now W)
  have CP := Lib.hid (fun W (hW : Pre W (detL db mb g m)) => d_Peers W db mb g m hW (by omega))
  obtain ⟨S, hS⟩ : ∃ S, S = suspects9 m now := ⟨_, rfl⟩
  rw [← hS]
  unfold suspects9 at hS
  have hmem : ∀ id ∈ (keysOf m).mergeSort leB, ∃ p, mget m id = some p ∧ p.ok ∧ intK.ok id := by
    intro id hid
    have h1 : id ∈ keysOf m := (List.mergeSort_perm _ _).mem_iff.1 hid
    cases hg : mget m id with
    | none => exact absurd h1 (mget_none.1 hg)
    | some p => exact ⟨p, rfl, hok _ (mget_mem hg), hkey _ (mget_mem hg)⟩
  have hlen : ((keysOf m).mergeSort leB).length ≤ 1000 := by rw [List.length_mergeSort]; simpa [keysOf] using hsz
  have LK := Lib.hid (fun W (hW : MapAt intK Peer.val W mb m) (id : Int) (hk : intK.ok id) => look_peer1 hW hk)
  have HN := Lib.hid hn
  have H := Lib.hid h
  clear h hn hsz hok hkey
  generalize (keysOf m).mergeSort leB = L at *
  have HS := Lib.hid hS
  have HMM := Lib.hid hmem
  clear hS hmem
  skip
  go_enter Try.func10, Try.ntmps10
  have cs := O.facts
  simp only [factsP, cellsP, roomP, foots_cons, foots_nil, foots_append, foot_pt, ptb, ptb_mapA, foot_mapA, factsP_mapA, foot_bun, List.append_nil, List.nil_append, List.cons_append, List.nodup_cons, List.nodup_nil, List.mem_cons, List.not_mem_nil, List.mem_singleton, List.forall_mem_cons, not_or, not_false_eq_true, and_true, true_and, or_false, false_or, forall_eq_or_imp, forall_eq, implies_true, Nat.zero_add, Nat.reduceAdd, and_assoc, factsP_mapA, ptb_mapA, ptb_listA, factsP_listA, Nat.mul_one, intCells] at cs
  go_wp2_with fail
  first | apply Mem.atCall | apply Mem.atCode | apply Mem.atList
  case h => repeat' (first | (with_reducible exact O) | (with_reducible apply Mem.drew) | (with_reducible apply Mem.drewN) | (with_reducible apply Mem.ext) | (with_reducible apply Mem.alloc) | (with_reducible apply Mem.setCell) | (simp only [ptb, ptb_upd, foots_cons, List.mem_cons, World.size_alloc, size_ext, World.size_setCell, true_or, or_true, eq_self_iff_true, ptb_mapA, ptb_listA]))
  case' k =>
    intro w1 O'
    (try clear O)
    have O := O'
    clear O'
    (first | simp only [sel, rst, List.cons_append, List.nil_append, World.size_alloc, size_ext, World.size_setCell, size_setMap, World.size_drew, size_drewN, upd, List.set_cons_zero, List.set_cons_succ, if_true, if_false, reduceIte, not_false_eq_true, ne_lt0, ne_lt1, ne_lt2, ne_lt3, ne_lt4, cs] at O | simp only [sel, rst, List.cons_append, List.nil_append, World.size_alloc, size_ext, World.size_setCell, size_setMap, World.size_drew, size_drewN, upd, List.set_cons_zero, List.set_cons_succ, if_true, if_false, reduceIte, not_false_eq_true, ne_lt0, ne_lt1, ne_lt2, ne_lt3, ne_lt4] at O | skip)
    (try clear cs)
    (try clear v1)
    (try clear v2)
    (try clear v3)
  refine (CP.out _ (H.out.view O.fr)).mono ?_
  rintro e w2 ⟨A, c, rfl, o⟩
  replace O := O.callp [] o
  clear o CP
  simp only [put, List.append_nil] at O
  have cs := O.facts
  simp only [factsP, cellsP, roomP, foots_cons, foots_nil, foots_append, foot_pt, ptb, ptb_mapA, foot_mapA, factsP_mapA, foot_bun, List.append_nil, List.nil_append, List.cons_append, List.nodup_cons, List.nodup_nil, List.mem_cons, List.not_mem_nil, List.mem_singleton, List.forall_mem_cons, not_or, not_false_eq_true, and_true, true_and, or_false, false_or, forall_eq_or_imp, forall_eq, implies_true, Nat.zero_add, Nat.reduceAdd, and_assoc, factsP_mapA, ptb_mapA, ptb_listA, factsP_listA, Nat.mul_one, intCells] at cs
  go_wp2_with fail
  clear cs
  go_loopw [5, 11] (fun s5 s11 wr => ∃ (k : Nat) (A' : Option Addr) (c' : Nat), k ≤ L.length ∧ s11 = .int .i64 k ∧ s5 = .slice A' ((L.take k).filter (fun id => timeOk now && badP ((mget m id).getD noPeer) now)).length c' ∧ Mem w [] wr [listA 3 1 intCells A' c' ((L.take k).filter (fun id => timeOk now && badP ((mget m id).getD noPeer) now)), listA 3 1 intCells A c L]) (fun _ s11 _ => L.length - (intOf s11).toNat)
  case atStart => exact ⟨0, none, 0, by omega, rfl, rfl, Mem.listNil O⟩
  case round =>
    clear O
    obtain ⟨k, A', c', hk, rfl, rfl, O⟩ := hrel
    by_cases hlt : k < L.length
    · have hlti : (k : Int) < L.length := by omega
      obtain ⟨id, hid⟩ : ∃ id, L[k]? = some id := ⟨_, List.getElem?_eq_getElem hlt⟩
      obtain ⟨p, hp, hpo, hpk⟩ := HMM.out id (List.mem_of_getElem? hid)
      obtain ⟨gl, hg, _⟩ := listA_get (cs := intCells) (fun _ => rfl) (O.hold (listA 3 1 intCells A c L) (by simp)) hid
      subst hg
      have htk : (L.take (k + 1)).filter (fun id => timeOk now && badP ((mget m id).getD noPeer) now) = (L.take k).filter (fun id => timeOk now && badP ((mget m id).getD noPeer) now) ++ (if (timeOk now && badP p now) = true then [id] else []) := by
        rw [List.take_succ_eq_append_getElem hlt]
        rw [List.getElem?_eq_getElem hlt] at hid
        injection hid with hid
        rw [hid, List.filter_append]
        congr 1
        simp only [List.filter_cons, List.filter_nil, hp, Option.getD_some]
      have hbd : ((L.take k).filter (fun id => timeOk now && badP ((mget m id).getD noPeer) now)).length ≤ 1000 := by
        have h1 := List.length_filter_le (fun id => timeOk now && badP ((mget m id).getD noPeer) now) (L.take k)
        rw [List.length_take] at h1
        omega
      have HID := Lib.hid hid
      have LKp := Lib.hid (fun W (hW : MapAt intK Peer.val W mb m) => by
        have := LK.out W hW id hpk
        rw [hp] at this
        simp only [Option.getD_some] at this
        exact this)
      have CB := Lib.hid (fun (h0 : timeOk now = true) W => d_bad p hpo now (by simp [timeOk] at h0; exact h0.1) HN.out.2 W)
      clear hid hp hpo hpk
      generalize (L.take k).filter (fun id => timeOk now && badP ((mget m id).getD noPeer) now) = F at *
      obtain ⟨a, b, cc, d⟩ := p
      simp only [Peer.val] at LKp CB
      generalize badP ⟨a, b, cc, d⟩ now = bd at htk CB
      generalize htm : timeOk now = tm at htk CT CB
      have HTK := Lib.hid htk
      have HTM := Lib.hid htm
      clear htk htm
      cases tm
      · skip
        have cs := O.facts
        simp only [factsP, cellsP, roomP, foots_cons, foots_nil, foots_append, foot_pt, ptb, ptb_mapA, foot_mapA, factsP_mapA, foot_bun, List.append_nil, List.nil_append, List.cons_append, List.nodup_cons, List.nodup_nil, List.mem_cons, List.not_mem_nil, List.mem_singleton, List.forall_mem_cons, not_or, not_false_eq_true, and_true, true_and, or_false, false_or, forall_eq_or_imp, forall_eq, implies_true, Nat.zero_add, Nat.reduceAdd, and_assoc, factsP_mapA, ptb_mapA, ptb_listA, factsP_listA, Nat.mul_one, intCells] at cs
        have v1 := (listA_at (cs := intCells) (fun _ => rfl) (O.hold (listA 3 1 intCells (some ⟨gl, 0, none⟩) c L) (by simp)) HID.out)
        try simp only [cellsQ, roomP, and_assoc, and_true, true_and, Nat.add_zero, Nat.zero_add, Nat.reduceAdd, factsP, cellsP, roomP, foots_cons, foots_nil, foots_append, foot_pt, ptb, ptb_mapA, foot_mapA, factsP_mapA, foot_bun, List.append_nil, List.nil_append, List.cons_append, List.nodup_cons, List.nodup_nil, List.mem_cons, List.not_mem_nil, List.mem_singleton, List.forall_mem_cons, not_or, not_false_eq_true, and_true, true_and, or_false, false_or, forall_eq_or_imp, forall_eq, implies_true, Nat.zero_add, Nat.reduceAdd, and_assoc, factsP_mapA, ptb_mapA, ptb_listA, factsP_listA, Nat.mul_one, intCells] at v1
        go_wp2_with fail
        first | apply Mem.atCall | apply Mem.atCode | apply Mem.atList
        case h => repeat' (first | (with_reducible exact O) | (with_reducible apply Mem.drew) | (with_reducible apply Mem.drewN) | (with_reducible apply Mem.ext) | (with_reducible apply Mem.alloc) | (with_reducible apply Mem.setCell) | (simp only [ptb, ptb_upd, foots_cons, List.mem_cons, World.size_alloc, size_ext, World.size_setCell, true_or, or_true, eq_self_iff_true, ptb_mapA, ptb_listA]))
        case' k =>
          intro w3 O'
          (try clear O)
          have O := O'
          clear O'
          (first | simp only [sel, rst, List.cons_append, List.nil_append, World.size_alloc, size_ext, World.size_setCell, size_setMap, World.size_drew, size_drewN, upd, List.set_cons_zero, List.set_cons_succ, if_true, if_false, reduceIte, not_false_eq_true, ne_lt0, ne_lt1, ne_lt2, ne_lt3, ne_lt4, cs] at O | simp only [sel, rst, List.cons_append, List.nil_append, World.size_alloc, size_ext, World.size_setCell, size_setMap, World.size_drew, size_drewN, upd, List.set_cons_zero, List.set_cons_succ, if_true, if_false, reduceIte, not_false_eq_true, ne_lt0, ne_lt1, ne_lt2, ne_lt3, ne_lt4] at O | skip)
          (try clear cs)
          (try clear v1)
          (try clear v2)
          (try clear v3)
        refine (CT.out _).mono ?_
        rintro e w4 ⟨rfl, o⟩
        replace O := O.callp [] o
        clear o
        simp only [put, List.cons_append, List.nil_append] at O
        try simp only [List.append_nil, List.nil_append] at O
        skip
        have cs := O.facts
        simp only [factsP, cellsP, roomP, foots_cons, foots_nil, foots_append, foot_pt, ptb, ptb_mapA, foot_mapA, factsP_mapA, foot_bun, List.append_nil, List.nil_append, List.cons_append, List.nodup_cons, List.nodup_nil, List.mem_cons, List.not_mem_nil, List.mem_singleton, List.forall_mem_cons, not_or, not_false_eq_true, and_true, true_and, or_false, false_or, forall_eq_or_imp, forall_eq, implies_true, Nat.zero_add, Nat.reduceAdd, and_assoc, factsP_mapA, ptb_mapA, ptb_listA, factsP_listA, Nat.mul_one, intCells] at cs
        go_wp2_with fail
        go_roundw
        case rel =>
          have e := HTK.out
          rw [if_neg (by simp), List.append_nil] at e
          exact ⟨k + 1, A', c', by omega, by go_num, by rw [e], by rw [e]; exact O⟩
        case measure => simp [intOf]; omega
      · simp only [detL] at H
        skip
        have cs := O.facts
        simp only [factsP, cellsP, roomP, foots_cons, foots_nil, foots_append, foot_pt, ptb, ptb_mapA, foot_mapA, factsP_mapA, foot_bun, List.append_nil, List.nil_append, List.cons_append, List.nodup_cons, List.nodup_nil, List.mem_cons, List.not_mem_nil, List.mem_singleton, List.forall_mem_cons, not_or, not_false_eq_true, and_true, true_and, or_false, false_or, forall_eq_or_imp, forall_eq, implies_true, Nat.zero_add, Nat.reduceAdd, and_assoc, factsP_mapA, ptb_mapA, ptb_listA, factsP_listA, Nat.mul_one, intCells] at cs
        have v1 := (listA_at (cs := intCells) (fun _ => rfl) (O.hold (listA 3 1 intCells (some ⟨gl, 0, none⟩) c L) (by simp)) HID.out)
        try simp only [cellsQ, roomP, and_assoc, and_true, true_and, Nat.add_zero, Nat.zero_add, Nat.reduceAdd, factsP, cellsP, roomP, foots_cons, foots_nil, foots_append, foot_pt, ptb, ptb_mapA, foot_mapA, factsP_mapA, foot_bun, List.append_nil, List.nil_append, List.cons_append, List.nodup_cons, List.nodup_nil, List.mem_cons, List.not_mem_nil, List.mem_singleton, List.forall_mem_cons, not_or, not_false_eq_true, and_true, true_and, or_false, false_or, forall_eq_or_imp, forall_eq, implies_true, Nat.zero_add, Nat.reduceAdd, and_assoc, factsP_mapA, ptb_mapA, ptb_listA, factsP_listA, Nat.mul_one, intCells] at v1
        go_wp2_with fail
        first | apply Mem.atCall | apply Mem.atCode | apply Mem.atList
        case h => repeat' (first | (with_reducible exact O) | (with_reducible apply Mem.drew) | (with_reducible apply Mem.drewN) | (with_reducible apply Mem.ext) | (with_reducible apply Mem.alloc) | (with_reducible apply Mem.setCell) | (simp only [ptb, ptb_upd, foots_cons, List.mem_cons, World.size_alloc, size_ext, World.size_setCell, true_or, or_true, eq_self_iff_true, ptb_mapA, ptb_listA]))
        case' k =>
          intro w3 O'
          (try clear O)
          have O := O'
          clear O'
          (first | simp only [sel, rst, List.cons_append, List.nil_append, World.size_alloc, size_ext, World.size_setCell, size_setMap, World.size_drew, size_drewN, upd, List.set_cons_zero, List.set_cons_succ, if_true, if_false, reduceIte, not_false_eq_true, ne_lt0, ne_lt1, ne_lt2, ne_lt3, ne_lt4, cs] at O | simp only [sel, rst, List.cons_append, List.nil_append, World.size_alloc, size_ext, World.size_setCell, size_setMap, World.size_drew, size_drewN, upd, List.set_cons_zero, List.set_cons_succ, if_true, if_false, reduceIte, not_false_eq_true, ne_lt0, ne_lt1, ne_lt2, ne_lt3, ne_lt4] at O | skip)
          (try clear cs)
          (try clear v1)
          (try clear v2)
          (try clear v3)
        refine (CT.out _).mono ?_
        rintro e w4 ⟨rfl, o⟩
        replace O := O.callp [] o
        clear o
        simp only [put, List.cons_append, List.nil_append] at O
        try simp only [List.append_nil, List.nil_append] at O
        skip
        have cs := O.facts
        simp only [factsP, cellsP, roomP, foots_cons, foots_nil, foots_append, foot_pt, ptb, ptb_mapA, foot_mapA, factsP_mapA, foot_bun, List.append_nil, List.nil_append, List.cons_append, List.nodup_cons, List.nodup_nil, List.mem_cons, List.not_mem_nil, List.mem_singleton, List.forall_mem_cons, not_or, not_false_eq_true, and_true, true_and, or_false, false_or, forall_eq_or_imp, forall_eq, implies_true, Nat.zero_add, Nat.reduceAdd, and_assoc, factsP_mapA, ptb_mapA, ptb_listA, factsP_listA, Nat.mul_one, intCells] at cs
        have v1 := (H.out.view (O.fr)).facts
        try simp only [cellsQ, roomP, and_assoc, and_true, true_and, Nat.add_zero, Nat.zero_add, Nat.reduceAdd, factsP, cellsP, roomP, foots_cons, foots_nil, foots_append, foot_pt, ptb, ptb_mapA, foot_mapA, factsP_mapA, foot_bun, List.append_nil, List.nil_append, List.cons_append, List.nodup_cons, List.nodup_nil, List.mem_cons, List.not_mem_nil, List.mem_singleton, List.forall_mem_cons, not_or, not_false_eq_true, and_true, true_and, or_false, false_or, forall_eq_or_imp, forall_eq, implies_true, Nat.zero_add, Nat.reduceAdd, and_assoc, factsP_mapA, ptb_mapA, ptb_listA, factsP_listA, Nat.mul_one, intCells] at v1
        have v2 := (LKp.out _ (Mem.map (κ := intK) (vv := Peer.val) (H.out.view (O.fr)) (by simp)))
        try simp only [cellsQ, roomP, and_assoc, and_true, true_and, Nat.add_zero, Nat.zero_add, Nat.reduceAdd, factsP, cellsP, roomP, foots_cons, foots_nil, foots_append, foot_pt, ptb, ptb_mapA, foot_mapA, factsP_mapA, foot_bun, List.append_nil, List.nil_append, List.cons_append, List.nodup_cons, List.nodup_nil, List.mem_cons, List.not_mem_nil, List.mem_singleton, List.forall_mem_cons, not_or, not_false_eq_true, and_true, true_and, or_false, false_or, forall_eq_or_imp, forall_eq, implies_true, Nat.zero_add, Nat.reduceAdd, and_assoc, factsP_mapA, ptb_mapA, ptb_listA, factsP_listA, Nat.mul_one, intCells] at v2
        go_wp2_with fail
        first | apply Mem.atCall | apply Mem.atCode | apply Mem.atList
        case h => repeat' (first | (with_reducible exact O) | (with_reducible apply Mem.drew) | (with_reducible apply Mem.drewN) | (with_reducible apply Mem.ext) | (with_reducible apply Mem.alloc) | (with_reducible apply Mem.setCell) | (simp only [ptb, ptb_upd, foots_cons, List.mem_cons, World.size_alloc, size_ext, World.size_setCell, true_or, or_true, eq_self_iff_true, ptb_mapA, ptb_listA]))
        case' k =>
          intro w5 O'
          (try clear O)
          have O := O'
          clear O'
          (first | simp only [sel, rst, List.cons_append, List.nil_append, World.size_alloc, size_ext, World.size_setCell, size_setMap, World.size_drew, size_drewN, upd, List.set_cons_zero, List.set_cons_succ, if_true, if_false, reduceIte, not_false_eq_true, ne_lt0, ne_lt1, ne_lt2, ne_lt3, ne_lt4, cs] at O | simp only [sel, rst, List.cons_append, List.nil_append, World.size_alloc, size_ext, World.size_setCell, size_setMap, World.size_drew, size_drewN, upd, List.set_cons_zero, List.set_cons_succ, if_true, if_false, reduceIte, not_false_eq_true, ne_lt0, ne_lt1, ne_lt2, ne_lt3, ne_lt4] at O | skip)
          (try clear cs)
          (try clear v1)
          (try clear v2)
          (try clear v3)
        refine (CB.out trivial _).mono ?_
        rintro e w6 ⟨rfl, o⟩
        replace O := O.callp [] o
        clear o
        simp only [put, List.cons_append, List.nil_append] at O
        try simp only [List.append_nil, List.nil_append] at O
        skip
        have e := HTK.out
        cases bd
        · rw [if_neg (by simp), List.append_nil] at e
          have HE := Lib.hid e
          clear e HTK
          have cs := O.facts
          simp only [factsP, cellsP, roomP, foots_cons, foots_nil, foots_append, foot_pt, ptb, ptb_mapA, foot_mapA, factsP_mapA, foot_bun, List.append_nil, List.nil_append, List.cons_append, List.nodup_cons, List.nodup_nil, List.mem_cons, List.not_mem_nil, List.mem_singleton, List.forall_mem_cons, not_or, not_false_eq_true, and_true, true_and, or_false, false_or, forall_eq_or_imp, forall_eq, implies_true, Nat.zero_add, Nat.reduceAdd, and_assoc, factsP_mapA, ptb_mapA, ptb_listA, factsP_listA, Nat.mul_one, intCells] at cs
          go_wp2_with fail
          go_roundw
          case rel => exact ⟨k + 1, A', c', by omega, by go_num, by rw [HE.out], by rw [HE.out]; exact O⟩
          case measure => simp [intOf]; omega
        · rw [if_pos (by simp)] at e
          have HE := Lib.hid e
          clear e HTK
          have cs := O.facts
          simp only [factsP, cellsP, roomP, foots_cons, foots_nil, foots_append, foot_pt, ptb, ptb_mapA, foot_mapA, factsP_mapA, foot_bun, List.append_nil, List.nil_append, List.cons_append, List.nodup_cons, List.nodup_nil, List.mem_cons, List.not_mem_nil, List.mem_singleton, List.forall_mem_cons, not_or, not_false_eq_true, and_true, true_and, or_false, false_or, forall_eq_or_imp, forall_eq, implies_true, Nat.zero_add, Nat.reduceAdd, and_assoc, factsP_mapA, ptb_mapA, ptb_listA, factsP_listA, Nat.mul_one, intCells] at cs
          go_wp2_with ((at_builtin; refine intTy.wl_app ((O.alloc (intCells id) 3).front1 [false, true] rfl) rfl rfl rfl rfl [id] rfl rfl (src_one (x := id) (fun _ => rfl) (O.alloc (intCells id) 3) (List.mem_cons_self ..)) (by simp; omega) ?_; intro A2 c2 w7 O4; have cs1 := O4.facts; simp only [rst, factsP, cellsP, roomP, foots_cons, foots_nil, foots_append, foot_pt, ptb, ptb_mapA, foot_mapA, factsP_mapA, foot_bun, List.append_nil, List.nil_append, List.cons_append, List.nodup_cons, List.nodup_nil, List.mem_cons, List.not_mem_nil, List.mem_singleton, List.forall_mem_cons, not_or, not_false_eq_true, and_true, true_and, or_false, false_or, forall_eq_or_imp, forall_eq, implies_true, Nat.zero_add, Nat.reduceAdd, and_assoc, factsP_mapA, ptb_mapA, ptb_listA, factsP_listA, Nat.mul_one, intCells] at cs1))
          clear cs O
          have cs := cs1
          clear cs1
          have O := O4.unfront
          simp only [put, List.cons_append, List.nil_append] at O
          clear O4
          go_roundw
          case rel => exact ⟨k + 1, A2, c2, by omega, by go_num, by rw [HE.out]; simp, by rw [HE.out]; exact O.sel [false, true, true]⟩
          case measure => simp [intOf]; omega
    · obtain rfl : k = L.length := by omega
      have hs := HS.out
      skip
      have cs := O.facts
      simp only [factsP, cellsP, roomP, foots_cons, foots_nil, foots_append, foot_pt, ptb, ptb_mapA, foot_mapA, factsP_mapA, foot_bun, List.append_nil, List.nil_append, List.cons_append, List.nodup_cons, List.nodup_nil, List.mem_cons, List.not_mem_nil, List.mem_singleton, List.forall_mem_cons, not_or, not_false_eq_true, and_true, true_and, or_false, false_or, forall_eq_or_imp, forall_eq, implies_true, Nat.zero_add, Nat.reduceAdd, and_assoc, factsP_mapA, ptb_mapA, ptb_listA, factsP_listA, Nat.mul_one, intCells] at cs
      go_wp2_with fail
      go_ret
      rw [List.take_length, ← hs] at O
      exact ⟨A', c', by simp [hs], O.sel [true, false]⟩
end Go.Proofs.Ytobiodbdnpcanaa
