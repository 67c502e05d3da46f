/- WALK: a detector's Changes. -/
import Derived.Test.YtobiodbdnpcanaaDetC09
set_option linter.unusedVariables false
set_option linter.unusedSimpArgs false
namespace Go.Proofs.Ytobiodbdnpcanaa
open Go.RowKit Go.Tk
def changeCells (c : Int × Bool) : List Value := [.int .i64 c.1, .bool c.2]
theorem changeTy : ElTy Try.prog 47 50 2 changeCells (0, false) := ⟨Try.underlying47, by kernel_rfl, by kernel_rfl, by omega, fun _ => rfl, fun a u h => by simp [changeCells] at h; rcases h with rfl | rfl <;> rfl⟩
def chStep (now : Int) (s : List (Int × Peer) × List (Int × Bool)) (id : Int) : List (Int × Peer) × List (Int × Bool) :=
  if (timeOk now && (badW ((mget s.1 id).getD noPeer) now != ((mget s.1 id).getD noPeer).told)) = true then
    (mset s.1 id ⟨((mget s.1 id).getD noPeer).last, ((mget s.1 id).getD noPeer).mean, ((mget s.1 id).getD noPeer).margin, badW ((mget s.1 id).getD noPeer) now⟩, s.2 ++ [(id, badW ((mget s.1 id).getD noPeer) now)]) else s
def changes9 (m : List (Int × Peer)) (now : Int) : List (Int × Peer) × List (Int × Bool) := ((keysOf m).mergeSort leB).foldl (chStep now) (m, [])
/-- what stays while the changes are told -/
def chInv (L : List Int) (m : List (Int × Peer)) : Prop := ∀ id ∈ L, ∃ p, mget m id = some p ∧ p.ok
theorem chInv.set {L : List Int} {m : List (Int × Peer)} (h : chInv L m) (id : Int) {p : Peer} (hp : p.ok) : chInv L (mset m id p) := by
  intro i hi
  by_cases e : i = id
  · subst e
    exact ⟨p, by rw [mget_mset, if_pos rfl], hp⟩
  · obtain ⟨q, h1, h2⟩ := h i hi
    exact ⟨q, by rw [mget_mset, if_neg (fun x => e x.symm)]; exact h1, h2⟩
set_option maxRecDepth 100000 in
set_option maxHeartbeats 16000000 in
theorem d_Changes (w : World) (db mb : Nat) (g : Int) (m : List (Int × Peer)) (h : Pre w (detL db mb g m)) (now : Int) (hsz : m.length ≤ 1000) (hok : ∀ q ∈ m, q.2.ok) (hkey : ∀ q ∈ m, intK.ok q.1) :
    Calls Try.prog 16 #[.pointer (some ⟨db, 0, none⟩), .int .i64 now] w (fun e w' => ∃ (A : Option Addr) (c : Nat), e = .returned (.slice A (changes9 m now).2.length c) ∧ Mem w (foots (detL db mb g m)) w' (listA 50 2 changeCells A c (changes9 m now).2 :: detL db mb g (changes9 m now).1)) := by
  have CT := Lib.hid (fun W => d_time now W)
  have CP := Lib.hid (fun W (hW : Pre W (detL db mb g m)) => d_Peers W db mb g m hW (by omega))
  obtain ⟨S, hS⟩ : ∃ S, S = changes9 m now := ⟨_, rfl⟩
  rw [← hS]
  unfold changes9 at hS
  have hmem : chInv ((keysOf m).mergeSort leB) m := by
    intro id hid
    have h1 : id ∈ keysOf m := (List.mergeSort_perm _ _).mem_iff.1 hid
    cases hg : mget m id with
    | none => exact absurd h1 (mget_none.1 hg)
    | some p => exact ⟨p, rfl, hok _ (mget_mem hg)⟩
  have hkk : ∀ id ∈ (keysOf m).mergeSort leB, intK.ok id := by
    intro id hid
    have h1 : id ∈ keysOf m := (List.mergeSort_perm _ _).mem_iff.1 hid
    obtain ⟨q, hq, rfl⟩ := List.mem_map.1 h1
    exact hkey q hq
  have hlen : ((keysOf m).mergeSort leB).length ≤ 1000 := by rw [List.length_mergeSort]; simpa [keysOf] using hsz
  obtain ⟨fp, hfp⟩ : ∃ F, F = foots (detL db mb g m) := ⟨_, rfl⟩
  have O : Mem w fp w (detL db mb g m) := by rw [hfp]; exact h
  rw [← hfp]
  clear hfp h hsz hok hkey
  generalize (keysOf m).mergeSort leB = L at *
  have HS := Lib.hid hS
  have HM := Lib.hid hmem
  have HKK := Lib.hid hkk
  clear hS hmem hkk
  simp only [detL] at O
  skip
  go_enter Try.func16, Try.ntmps16
  have cs := O.facts
  simp only [factsP, cellsP, roomP, foots_cons, foots_nil, foots_append, foot_pt, ptb, ptb_mapA, foot_mapA, factsP_mapA, foot_bun, List.append_nil, List.nil_append, List.cons_append, List.nodup_cons, List.nodup_nil, List.mem_cons, List.not_mem_nil, List.mem_singleton, List.forall_mem_cons, not_or, not_false_eq_true, and_true, true_and, or_false, false_or, forall_eq_or_imp, forall_eq, implies_true, Nat.zero_add, Nat.reduceAdd, and_assoc, factsP_mapA, ptb_mapA, ptb_listA, factsP_listA, Nat.mul_one, intCells, changeCells] at cs
  go_wp2_with fail
  first | apply Mem.atCall | apply Mem.atCode | apply Mem.atList
  case h => repeat' (first | (with_reducible exact O) | (with_reducible apply Mem.drew) | (with_reducible apply Mem.drewN) | (with_reducible apply Mem.ext) | (with_reducible apply Mem.alloc) | (with_reducible apply Mem.setCell) | (simp only [ptb, ptb_upd, foots_cons, List.mem_cons, World.size_alloc, size_ext, World.size_setCell, true_or, or_true, eq_self_iff_true, ptb_mapA, ptb_listA]))
  case' k =>
    intro w1 O'
    (try clear O)
    have O := O'
    clear O'
    (first | simp only [sel, rst, List.cons_append, List.nil_append, World.size_alloc, size_ext, World.size_setCell, size_setMap, World.size_drew, size_drewN, upd, List.set_cons_zero, List.set_cons_succ, if_true, if_false, reduceIte, not_false_eq_true, ne_lt0, ne_lt1, ne_lt2, ne_lt3, ne_lt4, cs] at O | simp only [sel, rst, List.cons_append, List.nil_append, World.size_alloc, size_ext, World.size_setCell, size_setMap, World.size_drew, size_drewN, upd, List.set_cons_zero, List.set_cons_succ, if_true, if_false, reduceIte, not_false_eq_true, ne_lt0, ne_lt1, ne_lt2, ne_lt3, ne_lt4] at O | skip)
    (try clear cs)
    (try clear v1)
    (try clear v2)
    (try clear v3)
  refine (CP.out _ (O.pre [true, true])).mono ?_
  rintro e w2 ⟨A, c, rfl, o⟩
  replace O := O.callp [] o
  clear o CP
  simp only [put, List.cons_append, List.nil_append] at O
  have cs := O.facts
  simp only [factsP, cellsP, roomP, foots_cons, foots_nil, foots_append, foot_pt, ptb, ptb_mapA, foot_mapA, factsP_mapA, foot_bun, List.append_nil, List.nil_append, List.cons_append, List.nodup_cons, List.nodup_nil, List.mem_cons, List.not_mem_nil, List.mem_singleton, List.forall_mem_cons, not_or, not_false_eq_true, and_true, true_and, or_false, false_or, forall_eq_or_imp, forall_eq, implies_true, Nat.zero_add, Nat.reduceAdd, and_assoc, factsP_mapA, ptb_mapA, ptb_listA, factsP_listA, Nat.mul_one, intCells, changeCells] at cs
  go_wp2_with fail
  clear cs
  go_loopw [5, 13] (fun s5 s13 wr => ∃ (k : Nat) (A' : Option Addr) (c' : Nat) (m' : List (Int × Peer)) (out : List (Int × Bool)), k ≤ L.length ∧ s13 = .int .i64 k ∧ s5 = .slice A' out.length c' ∧ out.length ≤ k ∧ Mem w fp wr [listA 50 2 changeCells A' c' out, listA 3 1 intCells A c L, .pt db [.int .i64 g, .map (some mb)] 56, mapA intK Peer.val mb m'] ∧ Hid ((m', out) = (L.take k).foldl (chStep now) (m, []) ∧ chInv L m')) (fun _ s13 _ => L.length - (intOf s13).toNat)
  case atStart => exact ⟨0, none, 0, m, [], by omega, rfl, rfl, by simp, Mem.listNil O, Lib.hid ⟨rfl, HM.out⟩⟩
  case round =>
    clear O
    obtain ⟨k, A', c', m', out, hk, rfl, rfl, hol, O, HI⟩ := hrel
    by_cases hlt : k < L.length
    · have hlti : (k : Int) < L.length := by omega
      obtain ⟨id, hid⟩ : ∃ id, L[k]? = some id := ⟨_, List.getElem?_eq_getElem hlt⟩
      obtain ⟨p, hp, hpo⟩ := HI.out.2 id (List.mem_of_getElem? hid)
      obtain ⟨gl, hg, _⟩ := listA_get (cs := intCells) (fun _ => rfl) (O.hold (listA 3 1 intCells A c L) (by simp)) hid
      subst hg
      have htk : (L.take (k + 1)).foldl (chStep now) (m, []) = chStep now (m', out) id := by
        rw [List.take_succ_eq_append_getElem hlt, List.foldl_append, ← HI.out.1]
        rw [List.getElem?_eq_getElem hlt] at hid
        injection hid with hid
        rw [hid]
        rfl
      have hkid := HKK.out id (List.mem_of_getElem? hid)
      have LKp := Lib.hid (fun W (hW : MapAt intK Peer.val W mb m') => by
        have := look_peer1 hW hkid
        rw [hp] at this
        simp only [Option.getD_some] at this
        exact this)
      have HKID := Lib.hid hkid
      have CB := Lib.hid (fun W => d_badW p hpo now W)
      obtain ⟨FF, hF⟩ : ∃ FF, (L.take (k + 1)).foldl (chStep now) (m, []) = FF := ⟨_, rfl⟩
      rw [hF] at htk
      have HF := Lib.hid hF
      clear hF
      unfold chStep at htk
      simp only [hp, Option.getD_some] at htk
      have HPO := Lib.hid hpo
      have HID := Lib.hid hid
      clear hid hp hpo hkid
      obtain ⟨a, b, cc, d⟩ := p
      simp only [Peer.val] at LKp CB htk
      have hset : ∀ bd, chInv L (mset m' id ⟨a, b, cc, bd⟩) := fun bd => HI.out.2.set id ⟨HPO.out.last, HPO.out.mean, HPO.out.margin⟩
      have HSET := Lib.hid hset
      have HIV := Lib.hid HI.out.2
      clear hset HPO
      generalize badW ⟨a, b, cc, d⟩ now = bd at htk CB
      generalize timeOk now = tm at htk CT
      have HTK := Lib.hid htk
      clear htk
      skip
      have cs := O.facts
      simp only [factsP, cellsP, roomP, foots_cons, foots_nil, foots_append, foot_pt, ptb, ptb_mapA, foot_mapA, factsP_mapA, foot_bun, List.append_nil, List.nil_append, List.cons_append, List.nodup_cons, List.nodup_nil, List.mem_cons, List.not_mem_nil, List.mem_singleton, List.forall_mem_cons, not_or, not_false_eq_true, and_true, true_and, or_false, false_or, forall_eq_or_imp, forall_eq, implies_true, Nat.zero_add, Nat.reduceAdd, and_assoc, factsP_mapA, ptb_mapA, ptb_listA, factsP_listA, Nat.mul_one, intCells, changeCells] at cs
      have v1 := (listA_at (cs := intCells) (fun _ => rfl) (O.hold (listA 3 1 intCells (some ⟨gl, 0, none⟩) c L) (by simp)) HID.out)
      try simp only [cellsQ, roomP, and_assoc, and_true, true_and, Nat.add_zero, Nat.zero_add, Nat.reduceAdd, factsP, cellsP, roomP, foots_cons, foots_nil, foots_append, foot_pt, ptb, ptb_mapA, foot_mapA, factsP_mapA, foot_bun, List.append_nil, List.nil_append, List.cons_append, List.nodup_cons, List.nodup_nil, List.mem_cons, List.not_mem_nil, List.mem_singleton, List.forall_mem_cons, not_or, not_false_eq_true, and_true, true_and, or_false, false_or, forall_eq_or_imp, forall_eq, implies_true, Nat.zero_add, Nat.reduceAdd, and_assoc, factsP_mapA, ptb_mapA, ptb_listA, factsP_listA, Nat.mul_one, intCells, changeCells] at v1
      have v2 := (LKp.out _ (O.map (κ := intK) (vv := Peer.val) (by simp)))
      try simp only [cellsQ, roomP, and_assoc, and_true, true_and, Nat.add_zero, Nat.zero_add, Nat.reduceAdd, factsP, cellsP, roomP, foots_cons, foots_nil, foots_append, foot_pt, ptb, ptb_mapA, foot_mapA, factsP_mapA, foot_bun, List.append_nil, List.nil_append, List.cons_append, List.nodup_cons, List.nodup_nil, List.mem_cons, List.not_mem_nil, List.mem_singleton, List.forall_mem_cons, not_or, not_false_eq_true, and_true, true_and, or_false, false_or, forall_eq_or_imp, forall_eq, implies_true, Nat.zero_add, Nat.reduceAdd, and_assoc, factsP_mapA, ptb_mapA, ptb_listA, factsP_listA, Nat.mul_one, intCells, changeCells] at v2
      go_upto_region 6 with fail
      first | apply Mem.atCall | apply Mem.atCode | apply Mem.atList
      case h => repeat' (first | (with_reducible exact O) | (with_reducible apply Mem.drew) | (with_reducible apply Mem.drewN) | (with_reducible apply Mem.ext) | (with_reducible apply Mem.alloc) | (with_reducible apply Mem.setCell) | (simp only [ptb, ptb_upd, foots_cons, List.mem_cons, World.size_alloc, size_ext, World.size_setCell, true_or, or_true, eq_self_iff_true, ptb_mapA, ptb_listA]))
      case' k =>
        intro w3 O'
        (try clear O)
        have O := O'
        clear O'
        (first | simp only [sel, rst, List.cons_append, List.nil_append, World.size_alloc, size_ext, World.size_setCell, size_setMap, World.size_drew, size_drewN, upd, List.set_cons_zero, List.set_cons_succ, if_true, if_false, reduceIte, not_false_eq_true, ne_lt0, ne_lt1, ne_lt2, ne_lt3, ne_lt4, cs] at O | simp only [sel, rst, List.cons_append, List.nil_append, World.size_alloc, size_ext, World.size_setCell, size_setMap, World.size_drew, size_drewN, upd, List.set_cons_zero, List.set_cons_succ, if_true, if_false, reduceIte, not_false_eq_true, ne_lt0, ne_lt1, ne_lt2, ne_lt3, ne_lt4] at O | skip)
        (try clear cs)
        (try clear v1)
        (try clear v2)
        (try clear v3)
      generalize wr.heap.size = pb at O ⊢
      skip
      have cs := O.facts
      simp only [factsP, cellsP, roomP, foots_cons, foots_nil, foots_append, foot_pt, ptb, ptb_mapA, foot_mapA, factsP_mapA, foot_bun, List.append_nil, List.nil_append, List.cons_append, List.nodup_cons, List.nodup_nil, List.mem_cons, List.not_mem_nil, List.mem_singleton, List.forall_mem_cons, not_or, not_false_eq_true, and_true, true_and, or_false, false_or, forall_eq_or_imp, forall_eq, implies_true, Nat.zero_add, Nat.reduceAdd, and_assoc, factsP_mapA, ptb_mapA, ptb_listA, factsP_listA, Nat.mul_one, intCells, changeCells] at cs
      go_wp2_with fail
      first | apply Mem.atCall | apply Mem.atCode | apply Mem.atList
      case h => repeat' (first | (with_reducible exact O) | (with_reducible apply Mem.drew) | (with_reducible apply Mem.drewN) | (with_reducible apply Mem.ext) | (with_reducible apply Mem.alloc) | (with_reducible apply Mem.setCell) | (simp only [ptb, ptb_upd, foots_cons, List.mem_cons, World.size_alloc, size_ext, World.size_setCell, true_or, or_true, eq_self_iff_true, ptb_mapA, ptb_listA]))
      case' k =>
        intro w4 O'
        (try clear O)
        have O := O'
        clear O'
        (first | simp only [sel, rst, List.cons_append, List.nil_append, World.size_alloc, size_ext, World.size_setCell, size_setMap, World.size_drew, size_drewN, upd, List.set_cons_zero, List.set_cons_succ, if_true, if_false, reduceIte, not_false_eq_true, ne_lt0, ne_lt1, ne_lt2, ne_lt3, ne_lt4, cs] at O | simp only [sel, rst, List.cons_append, List.nil_append, World.size_alloc, size_ext, World.size_setCell, size_setMap, World.size_drew, size_drewN, upd, List.set_cons_zero, List.set_cons_succ, if_true, if_false, reduceIte, not_false_eq_true, ne_lt0, ne_lt1, ne_lt2, ne_lt3, ne_lt4] at O | skip)
        (try clear cs)
        (try clear v1)
        (try clear v2)
        (try clear v3)
      refine (CB.out _).mono ?_
      rintro e w5 ⟨rfl, o⟩
      replace O := O.callp [] o
      clear o
      simp only [put, List.cons_append, List.nil_append] at O
      try simp only [List.nil_append] at O
      have cs := O.facts
      simp only [factsP, cellsP, roomP, foots_cons, foots_nil, foots_append, foot_pt, ptb, ptb_mapA, foot_mapA, factsP_mapA, foot_bun, List.append_nil, List.nil_append, List.cons_append, List.nodup_cons, List.nodup_nil, List.mem_cons, List.not_mem_nil, List.mem_singleton, List.forall_mem_cons, not_or, not_false_eq_true, and_true, true_and, or_false, false_or, forall_eq_or_imp, forall_eq, implies_true, Nat.zero_add, Nat.reduceAdd, and_assoc, factsP_mapA, ptb_mapA, ptb_listA, factsP_listA, Nat.mul_one, intCells, changeCells] at cs
      go_wp2_with fail
      first | apply Mem.atCall | apply Mem.atCode | apply Mem.atList
      case h => repeat' (first | (with_reducible exact O) | (with_reducible apply Mem.drew) | (with_reducible apply Mem.drewN) | (with_reducible apply Mem.ext) | (with_reducible apply Mem.alloc) | (with_reducible apply Mem.setCell) | (simp only [ptb, ptb_upd, foots_cons, List.mem_cons, World.size_alloc, size_ext, World.size_setCell, true_or, or_true, eq_self_iff_true, ptb_mapA, ptb_listA]))
      case' k =>
        intro w6 O'
        (try clear O)
        have O := O'
        clear O'
        (first | simp only [sel, rst, List.cons_append, List.nil_append, World.size_alloc, size_ext, World.size_setCell, size_setMap, World.size_drew, size_drewN, upd, List.set_cons_zero, List.set_cons_succ, if_true, if_false, reduceIte, not_false_eq_true, ne_lt0, ne_lt1, ne_lt2, ne_lt3, ne_lt4, cs] at O | simp only [sel, rst, List.cons_append, List.nil_append, World.size_alloc, size_ext, World.size_setCell, size_setMap, World.size_drew, size_drewN, upd, List.set_cons_zero, List.set_cons_succ, if_true, if_false, reduceIte, not_false_eq_true, ne_lt0, ne_lt1, ne_lt2, ne_lt3, ne_lt4] at O | skip)
        (try clear cs)
        (try clear v1)
        (try clear v2)
        (try clear v3)
      refine (CT.out _).mono ?_
      rintro e w7 ⟨rfl, o⟩
      replace O := O.callp [] o
      clear o
      simp only [put, List.cons_append, List.nil_append] at O
      try simp only [List.nil_append] at O
      by_cases hch : (tm && (bd != d)) = true
      · have htm : tm = true := by cases tm <;> simp_all
        subst htm
        have e := HTK.out
        rw [if_pos hch] at e
        have HE := Lib.hid e
        have hbd : bd = !d := by cases bd <;> cases d <;> simp_all
        clear e HTK hch
        cases d
        all_goals
          simp only [Bool.not_false, Bool.not_true] at hbd
          subst hbd
          have cs := O.facts
          simp only [factsP, cellsP, roomP, foots_cons, foots_nil, foots_append, foot_pt, ptb, ptb_mapA, foot_mapA, factsP_mapA, foot_bun, List.append_nil, List.nil_append, List.cons_append, List.nodup_cons, List.nodup_nil, List.mem_cons, List.not_mem_nil, List.mem_singleton, List.forall_mem_cons, not_or, not_false_eq_true, and_true, true_and, or_false, false_or, forall_eq_or_imp, forall_eq, implies_true, Nat.zero_add, Nat.reduceAdd, and_assoc, factsP_mapA, ptb_mapA, ptb_listA, factsP_listA, Nat.mul_one, intCells, changeCells] at cs
          go_upto_region 9 with fail
          first | apply Mem.atCall | apply Mem.atCode | apply Mem.atList
          case h => repeat' (first | (with_reducible exact O) | (with_reducible apply Mem.drew) | (with_reducible apply Mem.drewN) | (with_reducible apply Mem.ext) | (with_reducible apply Mem.alloc) | (with_reducible apply Mem.setCell) | (simp only [ptb, ptb_upd, foots_cons, List.mem_cons, World.size_alloc, size_ext, World.size_setCell, true_or, or_true, eq_self_iff_true, ptb_mapA, ptb_listA]))
          case' k =>
            intro w8 O'
            (try clear O)
            have O := O'
            clear O'
            (first | simp only [sel, rst, List.cons_append, List.nil_append, World.size_alloc, size_ext, World.size_setCell, size_setMap, World.size_drew, size_drewN, upd, List.set_cons_zero, List.set_cons_succ, if_true, if_false, reduceIte, not_false_eq_true, ne_lt0, ne_lt1, ne_lt2, ne_lt3, ne_lt4, cs] at O | simp only [sel, rst, List.cons_append, List.nil_append, World.size_alloc, size_ext, World.size_setCell, size_setMap, World.size_drew, size_drewN, upd, List.set_cons_zero, List.set_cons_succ, if_true, if_false, reduceIte, not_false_eq_true, ne_lt0, ne_lt1, ne_lt2, ne_lt3, ne_lt4] at O | skip)
            (try clear cs)
            (try clear v1)
            (try clear v2)
            (try clear v3)
          skip
          apply region_last_mem (by kernel_rfl) (by kernel_rfl)
          case O => repeat' (first | (with_reducible exact O) | (with_reducible apply Mem.drew) | (with_reducible apply Mem.drewN) | (with_reducible apply Mem.ext) | (with_reducible apply Mem.alloc) | (with_reducible apply Mem.setCell) | (simp only [ptb, ptb_upd, foots_cons, List.mem_cons, World.size_alloc, size_ext, World.size_setCell, true_or, or_true, eq_self_iff_true, ptb_mapA, ptb_listA]))
          case' h =>
            intro w9 O'
            (try clear O)
            have O := O'
            clear O'
            (first | simp only [sel, rst, List.cons_append, List.nil_append, World.size_alloc, size_ext, World.size_setCell, size_setMap, World.size_drew, size_drewN, upd, List.set_cons_zero, List.set_cons_succ, if_true, if_false, reduceIte, not_false_eq_true, ne_lt0, ne_lt1, ne_lt2, ne_lt3, ne_lt4, cs] at O | simp only [sel, rst, List.cons_append, List.nil_append, World.size_alloc, size_ext, World.size_setCell, size_setMap, World.size_drew, size_drewN, upd, List.set_cons_zero, List.set_cons_succ, if_true, if_false, reduceIte, not_false_eq_true, ne_lt0, ne_lt1, ne_lt2, ne_lt3, ne_lt4] at O | skip)
            (try clear cs)
            (try clear v1)
            (try clear v2)
            (try clear v3)
          simp only [List.length_cons, List.length_nil, Nat.reduceAdd, Nat.reduceSub, List.take_succ_cons, List.take_zero, List.drop_succ_cons, List.drop_zero]
          have cs := O.facts
          simp only [factsP, cellsP, roomP, foots_cons, foots_nil, foots_append, foot_pt, ptb, ptb_mapA, foot_mapA, factsP_mapA, foot_bun, List.append_nil, List.nil_append, List.cons_append, List.nodup_cons, List.nodup_nil, List.mem_cons, List.not_mem_nil, List.mem_singleton, List.forall_mem_cons, not_or, not_false_eq_true, and_true, true_and, or_false, false_or, forall_eq_or_imp, forall_eq, implies_true, Nat.zero_add, Nat.reduceAdd, and_assoc, factsP_mapA, ptb_mapA, ptb_listA, factsP_listA, Nat.mul_one, intCells, changeCells] at cs
          repeat still_step
          refine wpStill_nil ?_
          go_upto_region 10 with ((at_mapUpdate; refine wpList_mapUpdate_mem (O.front1 [false, false, false, false, true] rfl) rfl _ _ _ _ rfl Try.underlying54 rfl id HKID.out ⟨a, b, cc, _⟩ rfl rfl ?_; intro wa O6))
          (try clear cs)
          (try clear v1)
          (try clear v2)
          (try clear v3)
          have O7 := O6.unfront
          simp only [put, List.cons_append, List.nil_append] at O7
          clear O O6
          have O := O7
          clear O7
          first | apply Mem.atCall | apply Mem.atCode | apply Mem.atList
          case h => repeat' (first | (with_reducible exact O) | (with_reducible apply Mem.drew) | (with_reducible apply Mem.drewN) | (with_reducible apply Mem.ext) | (with_reducible apply Mem.alloc) | (with_reducible apply Mem.setCell) | (simp only [ptb, ptb_upd, foots_cons, List.mem_cons, World.size_alloc, size_ext, World.size_setCell, true_or, or_true, eq_self_iff_true, ptb_mapA, ptb_listA]))
          case' k =>
            intro wb O'
            (try clear O)
            have O := O'
            clear O'
            (first | simp only [sel, rst, List.cons_append, List.nil_append, World.size_alloc, size_ext, World.size_setCell, size_setMap, World.size_drew, size_drewN, upd, List.set_cons_zero, List.set_cons_succ, if_true, if_false, reduceIte, not_false_eq_true, ne_lt0, ne_lt1, ne_lt2, ne_lt3, ne_lt4, cs] at O | simp only [sel, rst, List.cons_append, List.nil_append, World.size_alloc, size_ext, World.size_setCell, size_setMap, World.size_drew, size_drewN, upd, List.set_cons_zero, List.set_cons_succ, if_true, if_false, reduceIte, not_false_eq_true, ne_lt0, ne_lt1, ne_lt2, ne_lt3, ne_lt4] at O | skip)
            (try clear cs)
            (try clear v1)
            (try clear v2)
            (try clear v3)
          have cs := O.facts
          simp only [factsP, cellsP, roomP, foots_cons, foots_nil, foots_append, foot_pt, ptb, ptb_mapA, foot_mapA, factsP_mapA, foot_bun, List.append_nil, List.nil_append, List.cons_append, List.nodup_cons, List.nodup_nil, List.mem_cons, List.not_mem_nil, List.mem_singleton, List.forall_mem_cons, not_or, not_false_eq_true, and_true, true_and, or_false, false_or, forall_eq_or_imp, forall_eq, implies_true, Nat.zero_add, Nat.reduceAdd, and_assoc, factsP_mapA, ptb_mapA, ptb_listA, factsP_listA, Nat.mul_one, intCells, changeCells] at cs
          go_wp2_with ((at_builtin; refine changeTy.wl_app ((O.alloc (changeCells (id, _)) 50).front1 [false, false, true] rfl) rfl rfl rfl rfl [(id, _)] rfl rfl (src_one (x := ((id, _) : Int × Bool)) (fun _ => rfl) (O.alloc (changeCells (id, _)) 50) (List.mem_cons_self ..)) (by simp; omega) ?_; intro A2 c2 wc O4; have cs1 := O4.facts; simp only [rst, factsP, cellsP, roomP, foots_cons, foots_nil, foots_append, foot_pt, ptb, ptb_mapA, foot_mapA, factsP_mapA, foot_bun, List.append_nil, List.nil_append, List.cons_append, List.nodup_cons, List.nodup_nil, List.mem_cons, List.not_mem_nil, List.mem_singleton, List.forall_mem_cons, not_or, not_false_eq_true, and_true, true_and, or_false, false_or, forall_eq_or_imp, forall_eq, implies_true, Nat.zero_add, Nat.reduceAdd, and_assoc, factsP_mapA, ptb_mapA, ptb_listA, factsP_listA, Nat.mul_one, intCells, changeCells] at cs1))
          clear cs O
          have cs := cs1
          clear cs1
          have O := O4.unfront
          simp only [put, List.cons_append, List.nil_append] at O
          clear O4
          go_roundw
          case rel =>
            refine ⟨k + 1, A2, c2, mset m' id ⟨a, b, cc, _⟩, out ++ [(id, _)], by omega, by go_num, by simp, by simp; omega, O.sel [false, false, true, true, true, true], Lib.hid ⟨by rw [HF.out]; exact HE.out.symm, HSET.out _⟩⟩
          case measure => simp [intOf]; omega
      · have e := HTK.out
        rw [if_neg hch] at e
        have HE := Lib.hid e
        clear e HTK
        cases tm
        · have cs := O.facts
          simp only [factsP, cellsP, roomP, foots_cons, foots_nil, foots_append, foot_pt, ptb, ptb_mapA, foot_mapA, factsP_mapA, foot_bun, List.append_nil, List.nil_append, List.cons_append, List.nodup_cons, List.nodup_nil, List.mem_cons, List.not_mem_nil, List.mem_singleton, List.forall_mem_cons, not_or, not_false_eq_true, and_true, true_and, or_false, false_or, forall_eq_or_imp, forall_eq, implies_true, Nat.zero_add, Nat.reduceAdd, and_assoc, factsP_mapA, ptb_mapA, ptb_listA, factsP_listA, Nat.mul_one, intCells, changeCells] at cs
          go_wp2_with fail
          go_roundw
          case rel =>
            refine ⟨k + 1, A', c', m', out, by omega, by go_num, rfl, by omega, ?_, Lib.hid ⟨by rw [HF.out]; exact HE.out.symm, HIV.out⟩⟩
            apply Mem.to [false, true, true, true, true]
            · repeat' (first | (with_reducible exact O) | (with_reducible apply Mem.drew) | (with_reducible apply Mem.drewN) | (with_reducible apply Mem.ext) | (with_reducible apply Mem.alloc) | (with_reducible apply Mem.setCell) | (simp only [ptb, ptb_upd, foots_cons, List.mem_cons, World.size_alloc, size_ext, World.size_setCell, true_or, or_true, eq_self_iff_true, ptb_mapA, ptb_listA]))
            · first | with_reducible rfl | (simp only [sel, rst, List.cons_append, List.nil_append, World.size_alloc, size_ext, World.size_setCell, size_setMap, World.size_drew, size_drewN, upd, List.set_cons_zero, List.set_cons_succ, if_true, if_false, reduceIte, not_false_eq_true, ne_lt0, ne_lt1, ne_lt2, ne_lt3, ne_lt4, cs]; done) | (simp only [sel, rst, List.cons_append, List.nil_append, World.size_alloc, size_ext, World.size_setCell, size_setMap, World.size_drew, size_drewN, upd, List.set_cons_zero, List.set_cons_succ, if_true, if_false, reduceIte, not_false_eq_true, ne_lt0, ne_lt1, ne_lt2, ne_lt3, ne_lt4]; done) | (simp only [sel, rst, List.cons_append, List.nil_append, World.size_alloc, size_ext, World.size_setCell, size_setMap, World.size_drew, size_drewN, upd, List.set_cons_zero, List.set_cons_succ, if_true, if_false, reduceIte, not_false_eq_true, ne_lt0, ne_lt1, ne_lt2, ne_lt3, ne_lt4, cs]; rfl) | (simp only [sel, rst, List.cons_append, List.nil_append, World.size_alloc, size_ext, World.size_setCell, size_setMap, World.size_drew, size_drewN, upd, List.set_cons_zero, List.set_cons_succ, if_true, if_false, reduceIte, not_false_eq_true, ne_lt0, ne_lt1, ne_lt2, ne_lt3, ne_lt4]; rfl)
          case measure => simp [intOf]; omega
        · have hbd : bd = d := by cases bd <;> cases d <;> simp_all
          subst hbd
          clear hch
          cases bd
          all_goals
            have cs := O.facts
            simp only [factsP, cellsP, roomP, foots_cons, foots_nil, foots_append, foot_pt, ptb, ptb_mapA, foot_mapA, factsP_mapA, foot_bun, List.append_nil, List.nil_append, List.cons_append, List.nodup_cons, List.nodup_nil, List.mem_cons, List.not_mem_nil, List.mem_singleton, List.forall_mem_cons, not_or, not_false_eq_true, and_true, true_and, or_false, false_or, forall_eq_or_imp, forall_eq, implies_true, Nat.zero_add, Nat.reduceAdd, and_assoc, factsP_mapA, ptb_mapA, ptb_listA, factsP_listA, Nat.mul_one, intCells, changeCells] at cs
            go_wp2_with fail
            go_roundw
            case rel =>
              refine ⟨k + 1, A', c', m', out, by omega, by go_num, rfl, by omega, ?_, Lib.hid ⟨by rw [HF.out]; exact HE.out.symm, HIV.out⟩⟩
              apply Mem.to [false, true, true, true, true]
              · repeat' (first | (with_reducible exact O) | (with_reducible apply Mem.drew) | (with_reducible apply Mem.drewN) | (with_reducible apply Mem.ext) | (with_reducible apply Mem.alloc) | (with_reducible apply Mem.setCell) | (simp only [ptb, ptb_upd, foots_cons, List.mem_cons, World.size_alloc, size_ext, World.size_setCell, true_or, or_true, eq_self_iff_true, ptb_mapA, ptb_listA]))
              · first | with_reducible rfl | (simp only [sel, rst, List.cons_append, List.nil_append, World.size_alloc, size_ext, World.size_setCell, size_setMap, World.size_drew, size_drewN, upd, List.set_cons_zero, List.set_cons_succ, if_true, if_false, reduceIte, not_false_eq_true, ne_lt0, ne_lt1, ne_lt2, ne_lt3, ne_lt4, cs]; done) | (simp only [sel, rst, List.cons_append, List.nil_append, World.size_alloc, size_ext, World.size_setCell, size_setMap, World.size_drew, size_drewN, upd, List.set_cons_zero, List.set_cons_succ, if_true, if_false, reduceIte, not_false_eq_true, ne_lt0, ne_lt1, ne_lt2, ne_lt3, ne_lt4]; done) | (simp only [sel, rst, List.cons_append, List.nil_append, World.size_alloc, size_ext, World.size_setCell, size_setMap, World.size_drew, size_drewN, upd, List.set_cons_zero, List.set_cons_succ, if_true, if_false, reduceIte, not_false_eq_true, ne_lt0, ne_lt1, ne_lt2, ne_lt3, ne_lt4, cs]; rfl) | (simp only [sel, rst, List.cons_append, List.nil_append, World.size_alloc, size_ext, World.size_setCell, size_setMap, World.size_drew, size_drewN, upd, List.set_cons_zero, List.set_cons_succ, if_true, if_false, reduceIte, not_false_eq_true, ne_lt0, ne_lt1, ne_lt2, ne_lt3, ne_lt4]; rfl)
            case measure => simp [intOf]; omega
    · obtain rfl : k = L.length := by omega
      have hs := HS.out
      have hi := HI.out.1
      rw [List.take_length, ← hs] at hi
      skip
      have cs := O.facts
      simp only [factsP, cellsP, roomP, foots_cons, foots_nil, foots_append, foot_pt, ptb, ptb_mapA, foot_mapA, factsP_mapA, foot_bun, List.append_nil, List.nil_append, List.cons_append, List.nodup_cons, List.nodup_nil, List.mem_cons, List.not_mem_nil, List.mem_singleton, List.forall_mem_cons, not_or, not_false_eq_true, and_true, true_and, or_false, false_or, forall_eq_or_imp, forall_eq, implies_true, Nat.zero_add, Nat.reduceAdd, and_assoc, factsP_mapA, ptb_mapA, ptb_listA, factsP_listA, Nat.mul_one, intCells, changeCells] at cs
      go_wp2_with fail
      go_ret
      subst hi
      exact ⟨A', c', by simp, O.sel [true, false, true, true]⟩
end Go.Proofs.Ytobiodbdnpcanaa
