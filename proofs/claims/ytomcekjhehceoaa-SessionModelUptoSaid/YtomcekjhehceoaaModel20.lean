/- WALK: a session of empty buckets is a map. -/
import Derived.Test.YtomcekjhehceoaaModelP20
import Derived.Test.YtomcekjhehceoaaOwnW20
import Derived.Test.YtomcekjhehceoaaOwn20
set_option linter.unusedVariables false
set_option linter.unusedSimpArgs false
namespace Go.Proofs.Ytomcekjhehceoaa
open Go.RowKit Go.Tk
def inc3 : Nat → Int
  | 3 => 0
  | _ => 1
theorem th_lt {k : ByteArray} {m : List En} {e : En} (h : m[lbK k m]? = some e) : isK k m = (e.1.toList == k.toList) := by
  unfold isK
  rw [h]
  simp only [Option.map_some, Option.some.injEq]
  rw [Bool.eq_iff_iff]
  simp only [decide_eq_true_eq, beq_iff_eq]
  exact ⟨fun h => by rw [h], fun h => ba_ext h⟩
theorem th_end {k : ByteArray} {m : List En} (h : m.length ≤ lbK k m) : isK k m = false := by
  unfold isK
  rw [List.getElem?_eq_none h]
  rfl
theorem putK_at {k v : ByteArray} {m : List En} {i j : Nat} {T D : List En} (hi : lbK k m = i) (hT : T = m.take i) (hD : D = m.drop j) (hj : j = if isK k m = true then i + 1 else i) : T ++ [(k, v)] ++ D = putK k v m := by
  subst hT hD hi
  rw [putK_split, hj]
  split <;> simp
set_option maxRecDepth 100000 in
set_option maxHeartbeats 32000000 in
theorem model_walk (w : World) (V1 : Value) (l1 : List OpR) (h1 : ArgList w 13 OpR.cells V1 l1) (ok1 : ∀ o ∈ l1, o.ok w) :
    Calls Try.prog 5 #[V1] w (fun e w' => e = .returned (.bool true) ∧ Below w.heap.size w w') := by
  obtain ⟨hl1, A1, c1, rfl, hc1⟩ := h1
  have HC1 := Lib.hid hc1
  have HK1 := Lib.hid ok1
  have HL1 := Lib.hid hl1
  clear hc1 ok1 hl1
  have O : Mem w [] w [] := Mem.begin
  have EN : ∀ W, (binOp .neq 25 .nilIface .nilIface).run Try.prog W = .ok (.bool false) W := fun W => by kernel_rfl
  have EF : ∀ fb W, (binOp .neq 25 (.iface 92 (.pointer (some ⟨fb, 0, none⟩))) .nilIface).run Try.prog W = .ok (.bool true) W := fun fb W => by kernel_rfl
  have EQ : ∀ W, (binOp .eql 25 .nilIface .nilIface).run Try.prog W = .ok (.bool true) W := fun W => by kernel_rfl
  have EG : ∀ fb W, (binOp .eql 25 (.iface 92 (.pointer (some ⟨fb, 0, none⟩))) .nilIface).run Try.prog W = .ok (.bool false) W := fun fb W => by kernel_rfl
  skip
  go_enter Try.func5, Try.ntmps5
  have cs := O.facts
  try simp only [factsP, cellsP, roomP, foots_cons, foots_nil, foots_append, foot_pt, ptb, ptb_mapA, foot_mapA, factsP_mapA, foot_bun, List.append_nil, List.nil_append, List.cons_append, List.nodup_cons, List.nodup_nil, List.mem_cons, List.not_mem_nil, List.mem_singleton, List.forall_mem_cons, not_or, not_false_eq_true, and_true, true_and, or_false, false_or, forall_eq_or_imp, forall_eq, implies_true, Nat.zero_add, Nat.reduceAdd, and_assoc, upd_listA, upd_mapA, upd_bun, upd_fam, upd_datasA, ptb_datasA, factsP_datasA, ptb_listA, factsP_listA, factsP_mapA, ptb_mapA, Nat.mul_one, factsP_bun, ptb_bun, ptb_fam, factsP_fam, factsP_errA, ptb_errA, upd_errA, entCells] at cs
  go_wp2_with fail
  refine (s_New _ 5 1 1 2 3 (by decide) (by decide) (by decide) (by decide) (by decide) (by decide) (by decide) (by decide)).mono ?_
  rintro e w1 ⟨S, hS1, hS2, hS3, hS4, hS5, rfl, o⟩
  replace O := O.callp [] o
  clear o hS1 hS2 hS3 hS4 hS5
  simp only [sesL, put, List.cons_append, List.nil_append] at O
  simp only [SesH.val]
  have cs := O.facts
  try simp only [factsP, cellsP, roomP, foots_cons, foots_nil, foots_append, foot_pt, ptb, ptb_mapA, foot_mapA, factsP_mapA, foot_bun, List.append_nil, List.nil_append, List.cons_append, List.nodup_cons, List.nodup_nil, List.mem_cons, List.not_mem_nil, List.mem_singleton, List.forall_mem_cons, not_or, not_false_eq_true, and_true, true_and, or_false, false_or, forall_eq_or_imp, forall_eq, implies_true, Nat.zero_add, Nat.reduceAdd, and_assoc, upd_listA, upd_mapA, upd_bun, upd_fam, upd_datasA, ptb_datasA, factsP_datasA, ptb_listA, factsP_listA, factsP_mapA, ptb_mapA, Nat.mul_one, factsP_bun, ptb_bun, ptb_fam, factsP_fam, factsP_errA, ptb_errA, upd_errA, entCells] at cs
  go_wp2_with fail
  refine (law_alive20 _).mono ?_
  rintro e w2 ⟨rfl, o⟩
  replace O := O.callp [] o
  clear o
  simp only [put, List.nil_append] at O
  have cs := O.facts
  try simp only [factsP, cellsP, roomP, foots_cons, foots_nil, foots_append, foot_pt, ptb, ptb_mapA, foot_mapA, factsP_mapA, foot_bun, List.append_nil, List.nil_append, List.cons_append, List.nodup_cons, List.nodup_nil, List.mem_cons, List.not_mem_nil, List.mem_singleton, List.forall_mem_cons, not_or, not_false_eq_true, and_true, true_and, or_false, false_or, forall_eq_or_imp, forall_eq, implies_true, Nat.zero_add, Nat.reduceAdd, and_assoc, upd_listA, upd_mapA, upd_bun, upd_fam, upd_datasA, ptb_datasA, factsP_datasA, ptb_listA, factsP_listA, factsP_mapA, ptb_mapA, Nat.mul_one, factsP_bun, ptb_bun, ptb_fam, factsP_fam, factsP_errA, ptb_errA, upd_errA, entCells] at cs
  go_wp2_with fail
  clear cs
  go_loopw [5] (fun s5 wr => ∃ (k : Nat) (ls : List LogM), k ≤ 3 ∧ s5 = .int .i64 k ∧ Mem w [] wr (sesL S false ls) ∧ Hid (PsOk (ls.map LogM.p) ∧ (∀ c : Int, hasP (ls.map LogM.p) c = decide (0 ≤ c ∧ c < k)) ∧ (ls.map LogM.p).length = k ∧ ∀ c : Int, nowP (ls.map LogM.p) c = [])) (fun s5 _ => 3 - (intOf s5).toNat)
  case atStart => exact ⟨0, [], by omega, rfl, O, Lib.hid ⟨PsOk.nil, fun c => by simp [hasP], rfl, fun c => rfl⟩⟩
  case round =>
    clear O
    obtain ⟨k, ls, hk3, rfl, O, HP⟩ := hrel
    simp only [sesL] at O
    by_cases hlt : k < 3
    · have hlti : (k : Int) < 3 := by omega
      have hkk : k = 0 ∨ k = 1 ∨ k = 2 := by omega
      have hwf : (Lit.int .i64 (k : Int)).wf = true := by rcases hkk with rfl | rfl | rfl <;> rfl
      have hrt : ItemR.right ⟨(k : Int), 0, false, .slice none 0 0, [], inc3⟩ = true := by rcases hkk with rfl | rfl | rfl <;> decide
      have LM := Lib.hid (learn_more hlt HP.out.1 HP.out.2.1 HP.out.2.2.1 ⟨(k : Int), 0, false, .slice none 0 0, [], inc3⟩ rfl rfl hrt (show (0 : Int) < 2147483647 by decide) (show zeros inc3 4 ≤ 1 by decide) HP.out.2.2.2)
      have CL := Lib.hid (fun W hW => s_Learn W S false ls ⟨(k : Int), 0, false, .slice none 0 0, [], inc3⟩ none 0 [] hwf hW (fun W' _ => ⟨ents_nil W', ents_nil W'⟩))
      simp only [ItemR.val, SesH.val, List.length_nil, show inc3 0 = 1 from rfl, show inc3 1 = 1 from rfl, show inc3 2 = 1 from rfl, show inc3 3 = 0 from rfl] at CL
      clear hkk hwf hrt
      skip
      have cs := O.facts
      try simp only [factsP, cellsP, roomP, foots_cons, foots_nil, foots_append, foot_pt, ptb, ptb_mapA, foot_mapA, factsP_mapA, foot_bun, List.append_nil, List.nil_append, List.cons_append, List.nodup_cons, List.nodup_nil, List.mem_cons, List.not_mem_nil, List.mem_singleton, List.forall_mem_cons, not_or, not_false_eq_true, and_true, true_and, or_false, false_or, forall_eq_or_imp, forall_eq, implies_true, Nat.zero_add, Nat.reduceAdd, and_assoc, upd_listA, upd_mapA, upd_bun, upd_fam, upd_datasA, ptb_datasA, factsP_datasA, ptb_listA, factsP_listA, factsP_mapA, ptb_mapA, Nat.mul_one, factsP_bun, ptb_bun, ptb_fam, factsP_fam, factsP_errA, ptb_errA, upd_errA, entCells] at cs
      go_wp2_with fail
      refine (CL.out _ (O.pre [true, true, true])).mono ?_
      rintro e w10 ⟨q, ls2, rfl, hq, hp, o⟩
      obtain rfl : q = none := hq.2 LM.out.1
      have O2 := (O.callp [true, true, true] o).sel [true, true, true]
      clear O o CL
      simp only [sesL, put, Tk.sel, List.cons_append, List.nil_append] at O2
      have O := O2
      clear O2
      have HP2 : Hid (PsOk (ls2.map LogM.p) ∧ (∀ c : Int, hasP (ls2.map LogM.p) c = decide (0 ≤ c ∧ c < (k + 1 : Nat))) ∧ (ls2.map LogM.p).length = k + 1 ∧ ∀ c : Int, nowP (ls2.map LogM.p) c = []) := Lib.hid (by rw [hp]; exact LM.out.2)
      clear hp hq LM
      simp only [errV_none]
      have cs := O.facts
      try simp only [factsP, cellsP, roomP, foots_cons, foots_nil, foots_append, foot_pt, ptb, ptb_mapA, foot_mapA, factsP_mapA, foot_bun, List.append_nil, List.nil_append, List.cons_append, List.nodup_cons, List.nodup_nil, List.mem_cons, List.not_mem_nil, List.mem_singleton, List.forall_mem_cons, not_or, not_false_eq_true, and_true, true_and, or_false, false_or, forall_eq_or_imp, forall_eq, implies_true, Nat.zero_add, Nat.reduceAdd, and_assoc, upd_listA, upd_mapA, upd_bun, upd_fam, upd_datasA, ptb_datasA, factsP_datasA, ptb_listA, factsP_listA, factsP_mapA, ptb_mapA, Nat.mul_one, factsP_bun, ptb_bun, ptb_fam, factsP_fam, factsP_errA, ptb_errA, upd_errA, entCells] at cs
      go_wp2_with fail
      go_roundw
      case rel => exact ⟨k + 1, ls2, by omega, by go_num, O, HP2⟩
      case measure => simp [intOf]; omega
    · obtain rfl : k = 3 := by omega
      simp only [show ((3 : Nat) : Int) = 3 from rfl]
      have HM : Hid (IsM (ls.map LogM.p) ∧ ([] : List En) = mOf (ls.map LogM.p)) := Lib.hid ⟨⟨HP.out.1, fun c => by rw [HP.out.2.1]; rw [Bool.eq_iff_iff]; simp only [decide_eq_true_eq]; omega⟩, by unfold mOf; rw [HP.out.2.2.2, HP.out.2.2.2, HP.out.2.2.2]; rfl⟩
      clear HP
      skip
      have cs := O.facts
      try simp only [factsP, cellsP, roomP, foots_cons, foots_nil, foots_append, foot_pt, ptb, ptb_mapA, foot_mapA, factsP_mapA, foot_bun, List.append_nil, List.nil_append, List.cons_append, List.nodup_cons, List.nodup_nil, List.mem_cons, List.not_mem_nil, List.mem_singleton, List.forall_mem_cons, not_or, not_false_eq_true, and_true, true_and, or_false, false_or, forall_eq_or_imp, forall_eq, implies_true, Nat.zero_add, Nat.reduceAdd, and_assoc, upd_listA, upd_mapA, upd_bun, upd_fam, upd_datasA, ptb_datasA, factsP_datasA, ptb_listA, factsP_listA, factsP_mapA, ptb_mapA, Nat.mul_one, factsP_bun, ptb_bun, ptb_fam, factsP_fam, factsP_errA, ptb_errA, upd_errA, entCells] at cs
      go_wp2_with fail
      clear cs
      obtain ⟨ls0, hls0⟩ : ∃ x, x = ls := ⟨_, rfl⟩
      subst hls0
      go_loopw [6, 7] (fun s6 s7 wr => ∃ (k : Nat) (ls : List LogM) (A : Option Addr) (c : Nat) (m : List En), k ≤ l1.length ∧ k ≤ 100 ∧ s7 = .int .i64 k ∧ s6 = .slice A m.length c ∧ Mem w [] wr (entsA A c m :: sesL S false ls) ∧ Hid (IsM (ls.map LogM.p) ∧ m = mOf (ls.map LogM.p))) (fun _ s7 _ => 100 - (intOf s7).toNat)
      case atStart => exact ⟨0, _, none, 0, [], by omega, by omega, rfl, rfl, O.listNil, HM⟩
      case round =>
        clear O HM
        obtain ⟨k, ls, A, c, m, hk, hk1, rfl, rfl, O, HM⟩ := hrel
        have hm24 : m.length ≤ 24 := by rw [HM.out.2]; exact mo_len HM.out.1
        have HRI := Lib.hid (show Rising m by rw [HM.out.2]; exact mo_rise HM.out.1)
        by_cases hlt : k < l1.length ∧ k < 100
        · obtain ⟨hlt1, hlt2⟩ := hlt
          have hi1 : (k : Int) < l1.length := by omega
          have hi2 : (k : Int) < 100 := by omega
          obtain ⟨o, ho⟩ : ∃ o, l1[k]? = some o := ⟨_, List.getElem?_eq_getElem hlt1⟩
          have hok := HK1.out o (List.mem_of_getElem? ho)
          obtain ⟨b, off, rfl, hb, hq⟩ := HC1.out k _ ho
          have HQ := Lib.hid (And.intro hb hq)
          have HOK := Lib.hid hok
          clear ho hok hb hq
          obtain ⟨kd, ⟨xb, xv, xw, xB, xd, xe, xi⟩, A0, c0, data, key, tk, val⟩ := o
          simp only [OpR.cells] at HQ
          simp only [sesL] at O
          skip
          have cs := O.facts
          try simp only [factsP, cellsP, roomP, foots_cons, foots_nil, foots_append, foot_pt, ptb, ptb_mapA, foot_mapA, factsP_mapA, foot_bun, List.append_nil, List.nil_append, List.cons_append, List.nodup_cons, List.nodup_nil, List.mem_cons, List.not_mem_nil, List.mem_singleton, List.forall_mem_cons, not_or, not_false_eq_true, and_true, true_and, or_false, false_or, forall_eq_or_imp, forall_eq, implies_true, Nat.zero_add, Nat.reduceAdd, and_assoc, upd_listA, upd_mapA, upd_bun, upd_fam, upd_datasA, ptb_datasA, factsP_datasA, ptb_listA, factsP_listA, factsP_mapA, ptb_mapA, Nat.mul_one, factsP_bun, ptb_bun, ptb_fam, factsP_fam, factsP_errA, ptb_errA, upd_errA, entCells] at cs
          try have v1 := (arg_view HQ.out.1 HQ.out.2 O.fr)
          try simp only [cellsQ, roomP, and_assoc, and_true, true_and, Nat.add_zero, Nat.zero_add, Nat.reduceAdd, factsP, cellsP, roomP, foots_cons, foots_nil, foots_append, foot_pt, ptb, ptb_mapA, foot_mapA, factsP_mapA, foot_bun, List.append_nil, List.nil_append, List.cons_append, List.nodup_cons, List.nodup_nil, List.mem_cons, List.not_mem_nil, List.mem_singleton, List.forall_mem_cons, not_or, not_false_eq_true, and_true, true_and, or_false, false_or, forall_eq_or_imp, forall_eq, implies_true, Nat.zero_add, Nat.reduceAdd, and_assoc, upd_listA, upd_mapA, upd_bun, upd_fam, upd_datasA, ptb_datasA, factsP_datasA, ptb_listA, factsP_listA, factsP_mapA, ptb_mapA, Nat.mul_one, factsP_bun, ptb_bun, ptb_fam, factsP_fam, factsP_errA, ptb_errA, upd_errA, entCells] at v1
          go_upto_region 14 with fail
          first | apply Mem.atCall | apply Mem.atCode | apply Mem.atList
          case h => repeat' (first | (with_reducible exact O) | (with_reducible apply Mem.drew) | (with_reducible apply Mem.drewN) | (with_reducible apply Mem.ext) | (with_reducible apply Mem.alloc) | (with_reducible apply Mem.setCell) | (simp only [ptb, ptb_upd, foots_cons, List.mem_cons, World.size_alloc, size_ext, World.size_setCell, true_or, or_true, eq_self_iff_true, ptb_datasA, ptb_listA, ptb_mapA, ptb_bun, ptb_fam, ptb_errA]))
          case' k =>
            intro w3 O'
            (try clear O)
            have O := O'
            clear O'
            (first | simp only [sel, rst, List.cons_append, List.nil_append, World.size_alloc, size_ext, World.size_setCell, size_setMap, World.size_drew, size_drewN, upd, List.set_cons_zero, List.set_cons_succ, if_true, if_false, reduceIte, not_false_eq_true, ne_lt0, ne_lt1, ne_lt2, ne_lt3, ne_lt4, upd_listA, upd_mapA, upd_bun, upd_fam, upd_datasA, upd_errA, cs] at O | simp only [sel, rst, List.cons_append, List.nil_append, World.size_alloc, size_ext, World.size_setCell, size_setMap, World.size_drew, size_drewN, upd, List.set_cons_zero, List.set_cons_succ, if_true, if_false, reduceIte, not_false_eq_true, ne_lt0, ne_lt1, ne_lt2, ne_lt3, ne_lt4, upd_listA, upd_mapA, upd_bun, upd_fam, upd_datasA, upd_errA] at O | skip)
            (try clear cs)
            (try clear v1)
            (try clear v2)
            (try clear v3)
          generalize wr.heap.size = ob at O ⊢
          skip
          obtain ⟨at0, hat⟩ : ∃ a, a = lbK key m := ⟨_, rfl⟩
          have hatm : at0 ≤ m.length := by rw [hat]; exact lbK_le key m
          have HAT := Lib.hid hat
          clear hat
          have cs := O.facts
          try simp only [factsP, cellsP, roomP, foots_cons, foots_nil, foots_append, foot_pt, ptb, ptb_mapA, foot_mapA, factsP_mapA, foot_bun, List.append_nil, List.nil_append, List.cons_append, List.nodup_cons, List.nodup_nil, List.mem_cons, List.not_mem_nil, List.mem_singleton, List.forall_mem_cons, not_or, not_false_eq_true, and_true, true_and, or_false, false_or, forall_eq_or_imp, forall_eq, implies_true, Nat.zero_add, Nat.reduceAdd, and_assoc, upd_listA, upd_mapA, upd_bun, upd_fam, upd_datasA, ptb_datasA, factsP_datasA, ptb_listA, factsP_listA, factsP_mapA, ptb_mapA, Nat.mul_one, factsP_bun, ptb_bun, ptb_fam, factsP_fam, factsP_errA, ptb_errA, upd_errA, entCells] at cs
          go_upto_block 4 with fail
          go_cut [9] (fun s9 wc => s9 = .int .i64 at0 ∧ Mem w [] wc [.pt ob [.int .i64 kd, .int .i64 xb, .int .u32 xv, .bool xw, .slice xB xe.length xd, .int .u32 (xi 0), .int .u32 (xi 1), .int .u32 (xi 2), .int .u32 (xi 3), .slice A0 data.length c0, .string key, .string tk, .string val] 38, entsA A c m, .pt S.sb [.int .u64 S.id, .int .i64 S.client, .int .i64 S.m0, .int .i64 S.m1, .int .i64 S.m2, .map (some S.lb), .bool false] 77, mapA intK ptrV S.lb (ls.map lgPtr), fam logA ls])
          case first =>
            have cs := O.facts
            try simp only [factsP, cellsP, roomP, foots_cons, foots_nil, foots_append, foot_pt, ptb, ptb_mapA, foot_mapA, factsP_mapA, foot_bun, List.append_nil, List.nil_append, List.cons_append, List.nodup_cons, List.nodup_nil, List.mem_cons, List.not_mem_nil, List.mem_singleton, List.forall_mem_cons, not_or, not_false_eq_true, and_true, true_and, or_false, false_or, forall_eq_or_imp, forall_eq, implies_true, Nat.zero_add, Nat.reduceAdd, and_assoc, upd_listA, upd_mapA, upd_bun, upd_fam, upd_datasA, ptb_datasA, factsP_datasA, ptb_listA, factsP_listA, factsP_mapA, ptb_mapA, Nat.mul_one, factsP_bun, ptb_bun, ptb_fam, factsP_fam, factsP_errA, ptb_errA, upd_errA, entCells] at cs
            go_wp2_with fail
            clear cs
            go_loopw [9] (fun s9 wr => ∃ (j : Nat), j ≤ at0 ∧ s9 = .int .i64 j ∧ Mem w [] wr [.pt ob [.int .i64 kd, .int .i64 xb, .int .u32 xv, .bool xw, .slice xB xe.length xd, .int .u32 (xi 0), .int .u32 (xi 1), .int .u32 (xi 2), .int .u32 (xi 3), .slice A0 data.length c0, .string key, .string tk, .string val] 38, entsA A c m, .pt S.sb [.int .u64 S.id, .int .i64 S.client, .int .i64 S.m0, .int .i64 S.m1, .int .i64 S.m2, .map (some S.lb), .bool false] 77, mapA intK ptrV S.lb (ls.map lgPtr), fam logA ls]) (fun s9 _ => at0 - (intOf s9).toNat)
            case atStart => exact ⟨0, by omega, rfl, O⟩
            case round =>
              clear O
              obtain ⟨j, hj, rfl, O⟩ := hrel
              by_cases hjm : j < m.length
              · have hjmi : (j : Int) < m.length := by omega
                obtain ⟨⟨ek, ev⟩, he⟩ : ∃ x, m[j]? = some x := ⟨_, List.getElem?_eq_getElem hjm⟩
                obtain ⟨g, rfl, _⟩ := listA_get entLen (O.hold _ (List.mem_cons_of_mem _ (List.mem_cons_self ..))) he
                have HX := Lib.hid he
                clear he
                by_cases hja : j < at0
                · have hlk : Op.bytesLess ek.toList key.toList = true := lbK_lo key m j (ek, ev) HX.out (by rw [← HAT.out]; exact hja)
                  skip
                  have cs := O.facts
                  try simp only [factsP, cellsP, roomP, foots_cons, foots_nil, foots_append, foot_pt, ptb, ptb_mapA, foot_mapA, factsP_mapA, foot_bun, List.append_nil, List.nil_append, List.cons_append, List.nodup_cons, List.nodup_nil, List.mem_cons, List.not_mem_nil, List.mem_singleton, List.forall_mem_cons, not_or, not_false_eq_true, and_true, true_and, or_false, false_or, forall_eq_or_imp, forall_eq, implies_true, Nat.zero_add, Nat.reduceAdd, and_assoc, upd_listA, upd_mapA, upd_bun, upd_fam, upd_datasA, ptb_datasA, factsP_datasA, ptb_listA, factsP_listA, factsP_mapA, ptb_mapA, Nat.mul_one, factsP_bun, ptb_bun, ptb_fam, factsP_fam, factsP_errA, ptb_errA, upd_errA, entCells] at cs
                  try have v1 := (listA_at entLen (O.hold _ (List.mem_cons_of_mem _ (List.mem_cons_self ..))) HX.out)
                  try simp only [cellsQ, roomP, and_assoc, and_true, true_and, Nat.add_zero, Nat.zero_add, Nat.reduceAdd, factsP, cellsP, roomP, foots_cons, foots_nil, foots_append, foot_pt, ptb, ptb_mapA, foot_mapA, factsP_mapA, foot_bun, List.append_nil, List.nil_append, List.cons_append, List.nodup_cons, List.nodup_nil, List.mem_cons, List.not_mem_nil, List.mem_singleton, List.forall_mem_cons, not_or, not_false_eq_true, and_true, true_and, or_false, false_or, forall_eq_or_imp, forall_eq, implies_true, Nat.zero_add, Nat.reduceAdd, and_assoc, upd_listA, upd_mapA, upd_bun, upd_fam, upd_datasA, ptb_datasA, factsP_datasA, ptb_listA, factsP_listA, factsP_mapA, ptb_mapA, Nat.mul_one, factsP_bun, ptb_bun, ptb_fam, factsP_fam, factsP_errA, ptb_errA, upd_errA, entCells] at v1
                  go_upto_region 15 with fail
                  apply region_quiet_mem (by kernel_rfl) (by kernel_rfl)
                  case O => repeat' (first | (with_reducible exact O) | (with_reducible apply Mem.drew) | (with_reducible apply Mem.drewN) | (with_reducible apply Mem.ext) | (with_reducible apply Mem.alloc) | (with_reducible apply Mem.setCell) | (simp only [ptb, ptb_upd, foots_cons, List.mem_cons, World.size_alloc, size_ext, World.size_setCell, true_or, or_true, eq_self_iff_true, ptb_datasA, ptb_listA, ptb_mapA, ptb_bun, ptb_fam, ptb_errA]))
                  case' h =>
                    intro z1 O'
                    (try clear O)
                    have O := O'
                    clear O'
                    (first | simp only [sel, rst, List.cons_append, List.nil_append, World.size_alloc, size_ext, World.size_setCell, size_setMap, World.size_drew, size_drewN, upd, List.set_cons_zero, List.set_cons_succ, if_true, if_false, reduceIte, not_false_eq_true, ne_lt0, ne_lt1, ne_lt2, ne_lt3, ne_lt4, upd_listA, upd_mapA, upd_bun, upd_fam, upd_datasA, upd_errA, cs] at O | simp only [sel, rst, List.cons_append, List.nil_append, World.size_alloc, size_ext, World.size_setCell, size_setMap, World.size_drew, size_drewN, upd, List.set_cons_zero, List.set_cons_succ, if_true, if_false, reduceIte, not_false_eq_true, ne_lt0, ne_lt1, ne_lt2, ne_lt3, ne_lt4, upd_listA, upd_mapA, upd_bun, upd_fam, upd_datasA, upd_errA] at O | skip)
                    (try clear cs)
                    (try clear v1)
                    (try clear v2)
                    (try clear v3)
                  have cs := O.facts
                  try simp only [factsP, cellsP, roomP, foots_cons, foots_nil, foots_append, foot_pt, ptb, ptb_mapA, foot_mapA, factsP_mapA, foot_bun, List.append_nil, List.nil_append, List.cons_append, List.nodup_cons, List.nodup_nil, List.mem_cons, List.not_mem_nil, List.mem_singleton, List.forall_mem_cons, not_or, not_false_eq_true, and_true, true_and, or_false, false_or, forall_eq_or_imp, forall_eq, implies_true, Nat.zero_add, Nat.reduceAdd, and_assoc, upd_listA, upd_mapA, upd_bun, upd_fam, upd_datasA, ptb_datasA, factsP_datasA, ptb_listA, factsP_listA, factsP_mapA, ptb_mapA, Nat.mul_one, factsP_bun, ptb_bun, ptb_fam, factsP_fam, factsP_errA, ptb_errA, upd_errA, entCells] at cs
                  try have v1 := (listA_at entLen (O.hold _ (List.mem_cons_of_mem _ (List.mem_cons_self ..))) HX.out)
                  try simp only [cellsQ, roomP, and_assoc, and_true, true_and, Nat.add_zero, Nat.zero_add, Nat.reduceAdd, factsP, cellsP, roomP, foots_cons, foots_nil, foots_append, foot_pt, ptb, ptb_mapA, foot_mapA, factsP_mapA, foot_bun, List.append_nil, List.nil_append, List.cons_append, List.nodup_cons, List.nodup_nil, List.mem_cons, List.not_mem_nil, List.mem_singleton, List.forall_mem_cons, not_or, not_false_eq_true, and_true, true_and, or_false, false_or, forall_eq_or_imp, forall_eq, implies_true, Nat.zero_add, Nat.reduceAdd, and_assoc, upd_listA, upd_mapA, upd_bun, upd_fam, upd_datasA, ptb_datasA, factsP_datasA, ptb_listA, factsP_listA, factsP_mapA, ptb_mapA, Nat.mul_one, factsP_bun, ptb_bun, ptb_fam, factsP_fam, factsP_errA, ptb_errA, upd_errA, entCells] at v1
                  repeat (go_big_quiet_step ((fail)))
                  refine wpQuiet_nil ?_
                  intro z2 hq
                  (try clear cs)
                  (try clear v1)
                  (try clear v2)
                  (try clear v3)
                  replace O := O.qext hq
                  clear hq
                  skip
                  have cs := O.facts
                  try simp only [factsP, cellsP, roomP, foots_cons, foots_nil, foots_append, foot_pt, ptb, ptb_mapA, foot_mapA, factsP_mapA, foot_bun, List.append_nil, List.nil_append, List.cons_append, List.nodup_cons, List.nodup_nil, List.mem_cons, List.not_mem_nil, List.mem_singleton, List.forall_mem_cons, not_or, not_false_eq_true, and_true, true_and, or_false, false_or, forall_eq_or_imp, forall_eq, implies_true, Nat.zero_add, Nat.reduceAdd, and_assoc, upd_listA, upd_mapA, upd_bun, upd_fam, upd_datasA, ptb_datasA, factsP_datasA, ptb_listA, factsP_listA, factsP_mapA, ptb_mapA, Nat.mul_one, factsP_bun, ptb_bun, ptb_fam, factsP_fam, factsP_errA, ptb_errA, upd_errA, entCells] at cs
                  go_wp2_with fail
                  go_roundw
                  case rel => exact ⟨j + 1, by omega, by go_num, O⟩
                  case measure => simp [intOf]; omega
                · obtain rfl : j = at0 := by omega
                  have hlk : Op.bytesLess ek.toList key.toList = false := lbK_hi key m HRI.out j (ek, ev) HX.out (by rw [← HAT.out]; omega)
                  skip
                  have cs := O.facts
                  try simp only [factsP, cellsP, roomP, foots_cons, foots_nil, foots_append, foot_pt, ptb, ptb_mapA, foot_mapA, factsP_mapA, foot_bun, List.append_nil, List.nil_append, List.cons_append, List.nodup_cons, List.nodup_nil, List.mem_cons, List.not_mem_nil, List.mem_singleton, List.forall_mem_cons, not_or, not_false_eq_true, and_true, true_and, or_false, false_or, forall_eq_or_imp, forall_eq, implies_true, Nat.zero_add, Nat.reduceAdd, and_assoc, upd_listA, upd_mapA, upd_bun, upd_fam, upd_datasA, ptb_datasA, factsP_datasA, ptb_listA, factsP_listA, factsP_mapA, ptb_mapA, Nat.mul_one, factsP_bun, ptb_bun, ptb_fam, factsP_fam, factsP_errA, ptb_errA, upd_errA, entCells] at cs
                  try have v1 := (listA_at entLen (O.hold _ (List.mem_cons_of_mem _ (List.mem_cons_self ..))) HX.out)
                  try simp only [cellsQ, roomP, and_assoc, and_true, true_and, Nat.add_zero, Nat.zero_add, Nat.reduceAdd, factsP, cellsP, roomP, foots_cons, foots_nil, foots_append, foot_pt, ptb, ptb_mapA, foot_mapA, factsP_mapA, foot_bun, List.append_nil, List.nil_append, List.cons_append, List.nodup_cons, List.nodup_nil, List.mem_cons, List.not_mem_nil, List.mem_singleton, List.forall_mem_cons, not_or, not_false_eq_true, and_true, true_and, or_false, false_or, forall_eq_or_imp, forall_eq, implies_true, Nat.zero_add, Nat.reduceAdd, and_assoc, upd_listA, upd_mapA, upd_bun, upd_fam, upd_datasA, ptb_datasA, factsP_datasA, ptb_listA, factsP_listA, factsP_mapA, ptb_mapA, Nat.mul_one, factsP_bun, ptb_bun, ptb_fam, factsP_fam, factsP_errA, ptb_errA, upd_errA, entCells] at v1
                  go_upto_region 15 with fail
                  apply region_quiet_mem (by kernel_rfl) (by kernel_rfl)
                  case O => repeat' (first | (with_reducible exact O) | (with_reducible apply Mem.drew) | (with_reducible apply Mem.drewN) | (with_reducible apply Mem.ext) | (with_reducible apply Mem.alloc) | (with_reducible apply Mem.setCell) | (simp only [ptb, ptb_upd, foots_cons, List.mem_cons, World.size_alloc, size_ext, World.size_setCell, true_or, or_true, eq_self_iff_true, ptb_datasA, ptb_listA, ptb_mapA, ptb_bun, ptb_fam, ptb_errA]))
                  case' h =>
                    intro z1 O'
                    (try clear O)
                    have O := O'
                    clear O'
                    (first | simp only [sel, rst, List.cons_append, List.nil_append, World.size_alloc, size_ext, World.size_setCell, size_setMap, World.size_drew, size_drewN, upd, List.set_cons_zero, List.set_cons_succ, if_true, if_false, reduceIte, not_false_eq_true, ne_lt0, ne_lt1, ne_lt2, ne_lt3, ne_lt4, upd_listA, upd_mapA, upd_bun, upd_fam, upd_datasA, upd_errA, cs] at O | simp only [sel, rst, List.cons_append, List.nil_append, World.size_alloc, size_ext, World.size_setCell, size_setMap, World.size_drew, size_drewN, upd, List.set_cons_zero, List.set_cons_succ, if_true, if_false, reduceIte, not_false_eq_true, ne_lt0, ne_lt1, ne_lt2, ne_lt3, ne_lt4, upd_listA, upd_mapA, upd_bun, upd_fam, upd_datasA, upd_errA] at O | skip)
                    (try clear cs)
                    (try clear v1)
                    (try clear v2)
                    (try clear v3)
                  have cs := O.facts
                  try simp only [factsP, cellsP, roomP, foots_cons, foots_nil, foots_append, foot_pt, ptb, ptb_mapA, foot_mapA, factsP_mapA, foot_bun, List.append_nil, List.nil_append, List.cons_append, List.nodup_cons, List.nodup_nil, List.mem_cons, List.not_mem_nil, List.mem_singleton, List.forall_mem_cons, not_or, not_false_eq_true, and_true, true_and, or_false, false_or, forall_eq_or_imp, forall_eq, implies_true, Nat.zero_add, Nat.reduceAdd, and_assoc, upd_listA, upd_mapA, upd_bun, upd_fam, upd_datasA, ptb_datasA, factsP_datasA, ptb_listA, factsP_listA, factsP_mapA, ptb_mapA, Nat.mul_one, factsP_bun, ptb_bun, ptb_fam, factsP_fam, factsP_errA, ptb_errA, upd_errA, entCells] at cs
                  try have v1 := (listA_at entLen (O.hold _ (List.mem_cons_of_mem _ (List.mem_cons_self ..))) HX.out)
                  try simp only [cellsQ, roomP, and_assoc, and_true, true_and, Nat.add_zero, Nat.zero_add, Nat.reduceAdd, factsP, cellsP, roomP, foots_cons, foots_nil, foots_append, foot_pt, ptb, ptb_mapA, foot_mapA, factsP_mapA, foot_bun, List.append_nil, List.nil_append, List.cons_append, List.nodup_cons, List.nodup_nil, List.mem_cons, List.not_mem_nil, List.mem_singleton, List.forall_mem_cons, not_or, not_false_eq_true, and_true, true_and, or_false, false_or, forall_eq_or_imp, forall_eq, implies_true, Nat.zero_add, Nat.reduceAdd, and_assoc, upd_listA, upd_mapA, upd_bun, upd_fam, upd_datasA, ptb_datasA, factsP_datasA, ptb_listA, factsP_listA, factsP_mapA, ptb_mapA, Nat.mul_one, factsP_bun, ptb_bun, ptb_fam, factsP_fam, factsP_errA, ptb_errA, upd_errA, entCells] at v1
                  repeat (go_big_quiet_step ((fail)))
                  refine wpQuiet_nil ?_
                  intro z2 hq
                  (try clear cs)
                  (try clear v1)
                  (try clear v2)
                  (try clear v3)
                  replace O := O.qext hq
                  clear hq
                  skip
                  have cs := O.facts
                  try simp only [factsP, cellsP, roomP, foots_cons, foots_nil, foots_append, foot_pt, ptb, ptb_mapA, foot_mapA, factsP_mapA, foot_bun, List.append_nil, List.nil_append, List.cons_append, List.nodup_cons, List.nodup_nil, List.mem_cons, List.not_mem_nil, List.mem_singleton, List.forall_mem_cons, not_or, not_false_eq_true, and_true, true_and, or_false, false_or, forall_eq_or_imp, forall_eq, implies_true, Nat.zero_add, Nat.reduceAdd, and_assoc, upd_listA, upd_mapA, upd_bun, upd_fam, upd_datasA, ptb_datasA, factsP_datasA, ptb_listA, factsP_listA, factsP_mapA, ptb_mapA, Nat.mul_one, factsP_bun, ptb_bun, ptb_fam, factsP_fam, factsP_errA, ptb_errA, upd_errA, entCells] at cs
                  go_wp2_with fail
                  go_meet
                  exact ⟨rfl, O⟩
              · obtain rfl : j = at0 := by omega
                have hjmi : ¬ (j : Int) < m.length := by omega
                have cs := O.facts
                try simp only [factsP, cellsP, roomP, foots_cons, foots_nil, foots_append, foot_pt, ptb, ptb_mapA, foot_mapA, factsP_mapA, foot_bun, List.append_nil, List.nil_append, List.cons_append, List.nodup_cons, List.nodup_nil, List.mem_cons, List.not_mem_nil, List.mem_singleton, List.forall_mem_cons, not_or, not_false_eq_true, and_true, true_and, or_false, false_or, forall_eq_or_imp, forall_eq, implies_true, Nat.zero_add, Nat.reduceAdd, and_assoc, upd_listA, upd_mapA, upd_bun, upd_fam, upd_datasA, ptb_datasA, factsP_datasA, ptb_listA, factsP_listA, factsP_mapA, ptb_mapA, Nat.mul_one, factsP_bun, ptb_bun, ptb_fam, factsP_fam, factsP_errA, ptb_errA, upd_errA, entCells] at cs
                go_upto_region 15 with fail
                apply region_quiet_mem (by kernel_rfl) (by kernel_rfl)
                case O => repeat' (first | (with_reducible exact O) | (with_reducible apply Mem.drew) | (with_reducible apply Mem.drewN) | (with_reducible apply Mem.ext) | (with_reducible apply Mem.alloc) | (with_reducible apply Mem.setCell) | (simp only [ptb, ptb_upd, foots_cons, List.mem_cons, World.size_alloc, size_ext, World.size_setCell, true_or, or_true, eq_self_iff_true, ptb_datasA, ptb_listA, ptb_mapA, ptb_bun, ptb_fam, ptb_errA]))
                case' h =>
                  intro z1 O'
                  (try clear O)
                  have O := O'
                  clear O'
                  (first | simp only [sel, rst, List.cons_append, List.nil_append, World.size_alloc, size_ext, World.size_setCell, size_setMap, World.size_drew, size_drewN, upd, List.set_cons_zero, List.set_cons_succ, if_true, if_false, reduceIte, not_false_eq_true, ne_lt0, ne_lt1, ne_lt2, ne_lt3, ne_lt4, upd_listA, upd_mapA, upd_bun, upd_fam, upd_datasA, upd_errA, cs] at O | simp only [sel, rst, List.cons_append, List.nil_append, World.size_alloc, size_ext, World.size_setCell, size_setMap, World.size_drew, size_drewN, upd, List.set_cons_zero, List.set_cons_succ, if_true, if_false, reduceIte, not_false_eq_true, ne_lt0, ne_lt1, ne_lt2, ne_lt3, ne_lt4, upd_listA, upd_mapA, upd_bun, upd_fam, upd_datasA, upd_errA] at O | skip)
                  (try clear cs)
                  (try clear v1)
                  (try clear v2)
                  (try clear v3)
                have cs := O.facts
                try simp only [factsP, cellsP, roomP, foots_cons, foots_nil, foots_append, foot_pt, ptb, ptb_mapA, foot_mapA, factsP_mapA, foot_bun, List.append_nil, List.nil_append, List.cons_append, List.nodup_cons, List.nodup_nil, List.mem_cons, List.not_mem_nil, List.mem_singleton, List.forall_mem_cons, not_or, not_false_eq_true, and_true, true_and, or_false, false_or, forall_eq_or_imp, forall_eq, implies_true, Nat.zero_add, Nat.reduceAdd, and_assoc, upd_listA, upd_mapA, upd_bun, upd_fam, upd_datasA, ptb_datasA, factsP_datasA, ptb_listA, factsP_listA, factsP_mapA, ptb_mapA, Nat.mul_one, factsP_bun, ptb_bun, ptb_fam, factsP_fam, factsP_errA, ptb_errA, upd_errA, entCells] at cs
                repeat (go_big_quiet_step ((fail)))
                refine wpQuiet_nil ?_
                intro z2 hq
                (try clear cs)
                (try clear v1)
                (try clear v2)
                (try clear v3)
                replace O := O.qext hq
                clear hq
                skip
                have cs := O.facts
                try simp only [factsP, cellsP, roomP, foots_cons, foots_nil, foots_append, foot_pt, ptb, ptb_mapA, foot_mapA, factsP_mapA, foot_bun, List.append_nil, List.nil_append, List.cons_append, List.nodup_cons, List.nodup_nil, List.mem_cons, List.not_mem_nil, List.mem_singleton, List.forall_mem_cons, not_or, not_false_eq_true, and_true, true_and, or_false, false_or, forall_eq_or_imp, forall_eq, implies_true, Nat.zero_add, Nat.reduceAdd, and_assoc, upd_listA, upd_mapA, upd_bun, upd_fam, upd_datasA, ptb_datasA, factsP_datasA, ptb_listA, factsP_listA, factsP_mapA, ptb_mapA, Nat.mul_one, factsP_bun, ptb_bun, ptb_fam, factsP_fam, factsP_errA, ptb_errA, upd_errA, entCells] at cs
                go_wp2_with fail
                go_meet
                exact ⟨rfl, O⟩
          case rest =>
            clear O
            obtain ⟨rfl, O⟩ := hcut
            obtain ⟨th, hth⟩ : ∃ b, b = isK key m := ⟨_, rfl⟩
            have HTH := Lib.hid hth
            clear hth
            skip
            have cs := O.facts
            try simp only [factsP, cellsP, roomP, foots_cons, foots_nil, foots_append, foot_pt, ptb, ptb_mapA, foot_mapA, factsP_mapA, foot_bun, List.append_nil, List.nil_append, List.cons_append, List.nodup_cons, List.nodup_nil, List.mem_cons, List.not_mem_nil, List.mem_singleton, List.forall_mem_cons, not_or, not_false_eq_true, and_true, true_and, or_false, false_or, forall_eq_or_imp, forall_eq, implies_true, Nat.zero_add, Nat.reduceAdd, and_assoc, upd_listA, upd_mapA, upd_bun, upd_fam, upd_datasA, ptb_datasA, factsP_datasA, ptb_listA, factsP_listA, factsP_mapA, ptb_mapA, Nat.mul_one, factsP_bun, ptb_bun, ptb_fam, factsP_fam, factsP_errA, ptb_errA, upd_errA, entCells] at cs
            go_upto_region 17 with fail
            go_cut [10] (fun s10 wc => s10 = .bool th ∧ Mem w [] wc [.pt ob [.int .i64 kd, .int .i64 xb, .int .u32 xv, .bool xw, .slice xB xe.length xd, .int .u32 (xi 0), .int .u32 (xi 1), .int .u32 (xi 2), .int .u32 (xi 3), .slice A0 data.length c0, .string key, .string tk, .string val] 38, entsA A c m, .pt S.sb [.int .u64 S.id, .int .i64 S.client, .int .i64 S.m0, .int .i64 S.m1, .int .i64 S.m2, .map (some S.lb), .bool false] 77, mapA intK ptrV S.lb (ls.map lgPtr), fam logA ls])
            case first =>
              by_cases hjm : at0 < m.length
              · have hjmi : (at0 : Int) < m.length := by omega
                obtain ⟨⟨ek, ev⟩, he⟩ : ∃ x, m[at0]? = some x := ⟨_, List.getElem?_eq_getElem hjm⟩
                obtain ⟨g, rfl, _⟩ := listA_get entLen (O.hold _ (List.mem_cons_of_mem _ (List.mem_cons_self ..))) he
                have HX := Lib.hid he
                clear he
                have hlk : (ek.toList == key.toList) = th := by
                  have h1 := HX.out
                  rw [HAT.out] at h1
                  rw [HTH.out, th_lt h1]
                cases th with
                | true =>
                  skip
                  apply region_quiet_mem (by kernel_rfl) (by kernel_rfl)
                  case O => repeat' (first | (with_reducible exact O) | (with_reducible apply Mem.drew) | (with_reducible apply Mem.drewN) | (with_reducible apply Mem.ext) | (with_reducible apply Mem.alloc) | (with_reducible apply Mem.setCell) | (simp only [ptb, ptb_upd, foots_cons, List.mem_cons, World.size_alloc, size_ext, World.size_setCell, true_or, or_true, eq_self_iff_true, ptb_datasA, ptb_listA, ptb_mapA, ptb_bun, ptb_fam, ptb_errA]))
                  case' h =>
                    intro z1 O'
                    (try clear O)
                    have O := O'
                    clear O'
                    (first | simp only [sel, rst, List.cons_append, List.nil_append, World.size_alloc, size_ext, World.size_setCell, size_setMap, World.size_drew, size_drewN, upd, List.set_cons_zero, List.set_cons_succ, if_true, if_false, reduceIte, not_false_eq_true, ne_lt0, ne_lt1, ne_lt2, ne_lt3, ne_lt4, upd_listA, upd_mapA, upd_bun, upd_fam, upd_datasA, upd_errA, cs] at O | simp only [sel, rst, List.cons_append, List.nil_append, World.size_alloc, size_ext, World.size_setCell, size_setMap, World.size_drew, size_drewN, upd, List.set_cons_zero, List.set_cons_succ, if_true, if_false, reduceIte, not_false_eq_true, ne_lt0, ne_lt1, ne_lt2, ne_lt3, ne_lt4, upd_listA, upd_mapA, upd_bun, upd_fam, upd_datasA, upd_errA] at O | skip)
                    (try clear cs)
                    (try clear v1)
                    (try clear v2)
                    (try clear v3)
                  have cs := O.facts
                  try simp only [factsP, cellsP, roomP, foots_cons, foots_nil, foots_append, foot_pt, ptb, ptb_mapA, foot_mapA, factsP_mapA, foot_bun, List.append_nil, List.nil_append, List.cons_append, List.nodup_cons, List.nodup_nil, List.mem_cons, List.not_mem_nil, List.mem_singleton, List.forall_mem_cons, not_or, not_false_eq_true, and_true, true_and, or_false, false_or, forall_eq_or_imp, forall_eq, implies_true, Nat.zero_add, Nat.reduceAdd, and_assoc, upd_listA, upd_mapA, upd_bun, upd_fam, upd_datasA, ptb_datasA, factsP_datasA, ptb_listA, factsP_listA, factsP_mapA, ptb_mapA, Nat.mul_one, factsP_bun, ptb_bun, ptb_fam, factsP_fam, factsP_errA, ptb_errA, upd_errA, entCells] at cs
                  try have v1 := (listA_at entLen (O.hold _ (List.mem_cons_of_mem _ (List.mem_cons_self ..))) HX.out)
                  try simp only [cellsQ, roomP, and_assoc, and_true, true_and, Nat.add_zero, Nat.zero_add, Nat.reduceAdd, factsP, cellsP, roomP, foots_cons, foots_nil, foots_append, foot_pt, ptb, ptb_mapA, foot_mapA, factsP_mapA, foot_bun, List.append_nil, List.nil_append, List.cons_append, List.nodup_cons, List.nodup_nil, List.mem_cons, List.not_mem_nil, List.mem_singleton, List.forall_mem_cons, not_or, not_false_eq_true, and_true, true_and, or_false, false_or, forall_eq_or_imp, forall_eq, implies_true, Nat.zero_add, Nat.reduceAdd, and_assoc, upd_listA, upd_mapA, upd_bun, upd_fam, upd_datasA, ptb_datasA, factsP_datasA, ptb_listA, factsP_listA, factsP_mapA, ptb_mapA, Nat.mul_one, factsP_bun, ptb_bun, ptb_fam, factsP_fam, factsP_errA, ptb_errA, upd_errA, entCells] at v1
                  repeat (go_big_quiet_step ((fail)))
                  refine wpQuiet_nil ?_
                  intro z2 hq
                  (try clear cs)
                  (try clear v1)
                  (try clear v2)
                  (try clear v3)
                  replace O := O.qext hq
                  clear hq
                  skip
                  have cs := O.facts
                  try simp only [factsP, cellsP, roomP, foots_cons, foots_nil, foots_append, foot_pt, ptb, ptb_mapA, foot_mapA, factsP_mapA, foot_bun, List.append_nil, List.nil_append, List.cons_append, List.nodup_cons, List.nodup_nil, List.mem_cons, List.not_mem_nil, List.mem_singleton, List.forall_mem_cons, not_or, not_false_eq_true, and_true, true_and, or_false, false_or, forall_eq_or_imp, forall_eq, implies_true, Nat.zero_add, Nat.reduceAdd, and_assoc, upd_listA, upd_mapA, upd_bun, upd_fam, upd_datasA, ptb_datasA, factsP_datasA, ptb_listA, factsP_listA, factsP_mapA, ptb_mapA, Nat.mul_one, factsP_bun, ptb_bun, ptb_fam, factsP_fam, factsP_errA, ptb_errA, upd_errA, entCells] at cs
                  go_wp2_with fail
                  go_meet
                  exact ⟨rfl, O⟩
                | false =>
                  skip
                  apply region_quiet_mem (by kernel_rfl) (by kernel_rfl)
                  case O => repeat' (first | (with_reducible exact O) | (with_reducible apply Mem.drew) | (with_reducible apply Mem.drewN) | (with_reducible apply Mem.ext) | (with_reducible apply Mem.alloc) | (with_reducible apply Mem.setCell) | (simp only [ptb, ptb_upd, foots_cons, List.mem_cons, World.size_alloc, size_ext, World.size_setCell, true_or, or_true, eq_self_iff_true, ptb_datasA, ptb_listA, ptb_mapA, ptb_bun, ptb_fam, ptb_errA]))
                  case' h =>
                    intro z1 O'
                    (try clear O)
                    have O := O'
                    clear O'
                    (first | simp only [sel, rst, List.cons_append, List.nil_append, World.size_alloc, size_ext, World.size_setCell, size_setMap, World.size_drew, size_drewN, upd, List.set_cons_zero, List.set_cons_succ, if_true, if_false, reduceIte, not_false_eq_true, ne_lt0, ne_lt1, ne_lt2, ne_lt3, ne_lt4, upd_listA, upd_mapA, upd_bun, upd_fam, upd_datasA, upd_errA, cs] at O | simp only [sel, rst, List.cons_append, List.nil_append, World.size_alloc, size_ext, World.size_setCell, size_setMap, World.size_drew, size_drewN, upd, List.set_cons_zero, List.set_cons_succ, if_true, if_false, reduceIte, not_false_eq_true, ne_lt0, ne_lt1, ne_lt2, ne_lt3, ne_lt4, upd_listA, upd_mapA, upd_bun, upd_fam, upd_datasA, upd_errA] at O | skip)
                    (try clear cs)
                    (try clear v1)
                    (try clear v2)
                    (try clear v3)
                  have cs := O.facts
                  try simp only [factsP, cellsP, roomP, foots_cons, foots_nil, foots_append, foot_pt, ptb, ptb_mapA, foot_mapA, factsP_mapA, foot_bun, List.append_nil, List.nil_append, List.cons_append, List.nodup_cons, List.nodup_nil, List.mem_cons, List.not_mem_nil, List.mem_singleton, List.forall_mem_cons, not_or, not_false_eq_true, and_true, true_and, or_false, false_or, forall_eq_or_imp, forall_eq, implies_true, Nat.zero_add, Nat.reduceAdd, and_assoc, upd_listA, upd_mapA, upd_bun, upd_fam, upd_datasA, ptb_datasA, factsP_datasA, ptb_listA, factsP_listA, factsP_mapA, ptb_mapA, Nat.mul_one, factsP_bun, ptb_bun, ptb_fam, factsP_fam, factsP_errA, ptb_errA, upd_errA, entCells] at cs
                  try have v1 := (listA_at entLen (O.hold _ (List.mem_cons_of_mem _ (List.mem_cons_self ..))) HX.out)
                  try simp only [cellsQ, roomP, and_assoc, and_true, true_and, Nat.add_zero, Nat.zero_add, Nat.reduceAdd, factsP, cellsP, roomP, foots_cons, foots_nil, foots_append, foot_pt, ptb, ptb_mapA, foot_mapA, factsP_mapA, foot_bun, List.append_nil, List.nil_append, List.cons_append, List.nodup_cons, List.nodup_nil, List.mem_cons, List.not_mem_nil, List.mem_singleton, List.forall_mem_cons, not_or, not_false_eq_true, and_true, true_and, or_false, false_or, forall_eq_or_imp, forall_eq, implies_true, Nat.zero_add, Nat.reduceAdd, and_assoc, upd_listA, upd_mapA, upd_bun, upd_fam, upd_datasA, ptb_datasA, factsP_datasA, ptb_listA, factsP_listA, factsP_mapA, ptb_mapA, Nat.mul_one, factsP_bun, ptb_bun, ptb_fam, factsP_fam, factsP_errA, ptb_errA, upd_errA, entCells] at v1
                  repeat (go_big_quiet_step ((fail)))
                  refine wpQuiet_nil ?_
                  intro z2 hq
                  (try clear cs)
                  (try clear v1)
                  (try clear v2)
                  (try clear v3)
                  replace O := O.qext hq
                  clear hq
                  skip
                  have cs := O.facts
                  try simp only [factsP, cellsP, roomP, foots_cons, foots_nil, foots_append, foot_pt, ptb, ptb_mapA, foot_mapA, factsP_mapA, foot_bun, List.append_nil, List.nil_append, List.cons_append, List.nodup_cons, List.nodup_nil, List.mem_cons, List.not_mem_nil, List.mem_singleton, List.forall_mem_cons, not_or, not_false_eq_true, and_true, true_and, or_false, false_or, forall_eq_or_imp, forall_eq, implies_true, Nat.zero_add, Nat.reduceAdd, and_assoc, upd_listA, upd_mapA, upd_bun, upd_fam, upd_datasA, ptb_datasA, factsP_datasA, ptb_listA, factsP_listA, factsP_mapA, ptb_mapA, Nat.mul_one, factsP_bun, ptb_bun, ptb_fam, factsP_fam, factsP_errA, ptb_errA, upd_errA, entCells] at cs
                  go_wp2_with fail
                  go_meet
                  exact ⟨rfl, O⟩
              · have hjmi : ¬ (at0 : Int) < m.length := by omega
                obtain rfl : th = false := by rw [HTH.out]; exact th_end (by rw [← HAT.out]; omega)
                apply region_quiet_mem (by kernel_rfl) (by kernel_rfl)
                case O => repeat' (first | (with_reducible exact O) | (with_reducible apply Mem.drew) | (with_reducible apply Mem.drewN) | (with_reducible apply Mem.ext) | (with_reducible apply Mem.alloc) | (with_reducible apply Mem.setCell) | (simp only [ptb, ptb_upd, foots_cons, List.mem_cons, World.size_alloc, size_ext, World.size_setCell, true_or, or_true, eq_self_iff_true, ptb_datasA, ptb_listA, ptb_mapA, ptb_bun, ptb_fam, ptb_errA]))
                case' h =>
                  intro z1 O'
                  (try clear O)
                  have O := O'
                  clear O'
                  (first | simp only [sel, rst, List.cons_append, List.nil_append, World.size_alloc, size_ext, World.size_setCell, size_setMap, World.size_drew, size_drewN, upd, List.set_cons_zero, List.set_cons_succ, if_true, if_false, reduceIte, not_false_eq_true, ne_lt0, ne_lt1, ne_lt2, ne_lt3, ne_lt4, upd_listA, upd_mapA, upd_bun, upd_fam, upd_datasA, upd_errA, cs] at O | simp only [sel, rst, List.cons_append, List.nil_append, World.size_alloc, size_ext, World.size_setCell, size_setMap, World.size_drew, size_drewN, upd, List.set_cons_zero, List.set_cons_succ, if_true, if_false, reduceIte, not_false_eq_true, ne_lt0, ne_lt1, ne_lt2, ne_lt3, ne_lt4, upd_listA, upd_mapA, upd_bun, upd_fam, upd_datasA, upd_errA] at O | skip)
                  (try clear cs)
                  (try clear v1)
                  (try clear v2)
                  (try clear v3)
                have cs := O.facts
                try simp only [factsP, cellsP, roomP, foots_cons, foots_nil, foots_append, foot_pt, ptb, ptb_mapA, foot_mapA, factsP_mapA, foot_bun, List.append_nil, List.nil_append, List.cons_append, List.nodup_cons, List.nodup_nil, List.mem_cons, List.not_mem_nil, List.mem_singleton, List.forall_mem_cons, not_or, not_false_eq_true, and_true, true_and, or_false, false_or, forall_eq_or_imp, forall_eq, implies_true, Nat.zero_add, Nat.reduceAdd, and_assoc, upd_listA, upd_mapA, upd_bun, upd_fam, upd_datasA, ptb_datasA, factsP_datasA, ptb_listA, factsP_listA, factsP_mapA, ptb_mapA, Nat.mul_one, factsP_bun, ptb_bun, ptb_fam, factsP_fam, factsP_errA, ptb_errA, upd_errA, entCells] at cs
                repeat (go_big_quiet_step ((fail)))
                refine wpQuiet_nil ?_
                intro z2 hq
                (try clear cs)
                (try clear v1)
                (try clear v2)
                (try clear v3)
                replace O := O.qext hq
                clear hq
                skip
                have cs := O.facts
                try simp only [factsP, cellsP, roomP, foots_cons, foots_nil, foots_append, foot_pt, ptb, ptb_mapA, foot_mapA, factsP_mapA, foot_bun, List.append_nil, List.nil_append, List.cons_append, List.nodup_cons, List.nodup_nil, List.mem_cons, List.not_mem_nil, List.mem_singleton, List.forall_mem_cons, not_or, not_false_eq_true, and_true, true_and, or_false, false_or, forall_eq_or_imp, forall_eq, implies_true, Nat.zero_add, Nat.reduceAdd, and_assoc, upd_listA, upd_mapA, upd_bun, upd_fam, upd_datasA, ptb_datasA, factsP_datasA, ptb_listA, factsP_listA, factsP_mapA, ptb_mapA, Nat.mul_one, factsP_bun, ptb_bun, ptb_fam, factsP_fam, factsP_errA, ptb_errA, upd_errA, entCells] at cs
                go_wp2_with fail
                go_meet
                exact ⟨rfl, O⟩
            case rest =>
              clear O
              obtain ⟨rfl, O⟩ := hcut
              by_cases h3 : kd = 3
              · subst h3
                have CP := Lib.hid (fun W hW => s_Put W S false ls key val HOK.out.key HOK.out.val HM.out.1.ok.logs hW)
                simp only [SesH.val] at CP
                skip
                have cs := O.facts
                try simp only [factsP, cellsP, roomP, foots_cons, foots_nil, foots_append, foot_pt, ptb, ptb_mapA, foot_mapA, factsP_mapA, foot_bun, List.append_nil, List.nil_append, List.cons_append, List.nodup_cons, List.nodup_nil, List.mem_cons, List.not_mem_nil, List.mem_singleton, List.forall_mem_cons, not_or, not_false_eq_true, and_true, true_and, or_false, false_or, forall_eq_or_imp, forall_eq, implies_true, Nat.zero_add, Nat.reduceAdd, and_assoc, upd_listA, upd_mapA, upd_bun, upd_fam, upd_datasA, ptb_datasA, factsP_datasA, ptb_listA, factsP_listA, factsP_mapA, ptb_mapA, Nat.mul_one, factsP_bun, ptb_bun, ptb_fam, factsP_fam, factsP_errA, ptb_errA, upd_errA, entCells] at cs
                go_wp2_with fail
                refine (CP.out _ (O.pre [false, false, true, true, true])).mono ?_
                rintro e w4 ⟨q, ls2, rfl, hq, hp, o⟩
                have O2 := (O.callp [false, false, true, true, true] o).sel [true, true, true, true, true]
                clear O o CP
                simp only [sesL, put, Tk.sel, List.cons_append, List.nil_append] at O2
                have O := O2
                clear O2
                cases q with
                | some fb =>
                  have hne : (putS false (ls.map LogM.p) key val).1 ≠ 0 := fun e => by have := hq.2 e; simp at this
                  have HM2 : Hid (IsM (ls2.map LogM.p) ∧ m = mOf (ls2.map LogM.p)) := Lib.hid (by rw [hp, put_no hne]; exact HM.out)
                  clear hne hp hq
                  simp only [errV_some]
                  have cs := O.facts
                  try simp only [factsP, cellsP, roomP, foots_cons, foots_nil, foots_append, foot_pt, ptb, ptb_mapA, foot_mapA, factsP_mapA, foot_bun, List.append_nil, List.nil_append, List.cons_append, List.nodup_cons, List.nodup_nil, List.mem_cons, List.not_mem_nil, List.mem_singleton, List.forall_mem_cons, not_or, not_false_eq_true, and_true, true_and, or_false, false_or, forall_eq_or_imp, forall_eq, implies_true, Nat.zero_add, Nat.reduceAdd, and_assoc, upd_listA, upd_mapA, upd_bun, upd_fam, upd_datasA, ptb_datasA, factsP_datasA, ptb_listA, factsP_listA, factsP_mapA, ptb_mapA, Nat.mul_one, factsP_bun, ptb_bun, ptb_fam, factsP_fam, factsP_errA, ptb_errA, upd_errA, entCells] at cs
                  go_wp2_with fail
                  go_roundw
                  case rel => exact ⟨k + 1, ls2, A, c, m, by omega, by omega, by go_num, by rfl, O.sel [false, true, true, true, true], HM2⟩
                  case measure => simp [intOf]; omega
                | none =>
                  have hcode := hq.1 rfl
                  have HM2 : Hid (IsM (ls2.map LogM.p) ∧ putK key val m = mOf (ls2.map LogM.p)) := Lib.hid (by rw [hp]; exact ⟨HM.out.1.put _ _, by rw [mo_put HM.out.1 hcode, HM.out.2]⟩)
                  clear hcode hp hq
                  simp only [errV_none]
                  obtain ⟨T, hT⟩ : ∃ T, T = m.take at0 := ⟨_, rfl⟩
                  have HT := Lib.hid hT
                  have LT : Hid (T.length = at0) := Lib.hid (by rw [hT]; simp; omega)
                  have hT24 : T.length ≤ 24 := by rw [LT.out]; omega
                  clear hT
                  replace O := O.listNil (e := 65) (size := 2) (cs := entCells)
                  cases A with
                  | none =>
                    obtain ⟨hm0, hc0⟩ := listA_none (O.hold (entsA none c m) (by simp))
                    subst hm0 hc0
                    obtain rfl : at0 = 0 := by simpa using hatm
                    obtain rfl : th = false := by rw [HTH.out]; rfl
                    obtain rfl : T = [] := List.length_eq_zero_iff.1 LT.out
                    have HM3 : Hid (IsM (ls2.map LogM.p) ∧ [(key, val)] = mOf (ls2.map LogM.p)) := Lib.hid HM2.out
                    simp only [List.length_nil] at O ⊢
                    skip
                    have cs := O.facts
                    try simp only [factsP, cellsP, roomP, foots_cons, foots_nil, foots_append, foot_pt, ptb, ptb_mapA, foot_mapA, factsP_mapA, foot_bun, List.append_nil, List.nil_append, List.cons_append, List.nodup_cons, List.nodup_nil, List.mem_cons, List.not_mem_nil, List.mem_singleton, List.forall_mem_cons, not_or, not_false_eq_true, and_true, true_and, or_false, false_or, forall_eq_or_imp, forall_eq, implies_true, Nat.zero_add, Nat.reduceAdd, and_assoc, upd_listA, upd_mapA, upd_bun, upd_fam, upd_datasA, ptb_datasA, factsP_datasA, ptb_listA, factsP_listA, factsP_mapA, ptb_mapA, Nat.mul_one, factsP_bun, ptb_bun, ptb_fam, factsP_fam, factsP_errA, ptb_errA, upd_errA, entCells] at cs
                    go_upto_region 26 with ((at_builtin; refine entTy.wl_app O rfl rfl rfl rfl [] rfl rfl ⟨rfl, fun h => absurd h (Nat.lt_irrefl 0)⟩ (by simp) ?_; intro B1 d1 w5 O1; have cs1 := O1.facts; simp only [factsP, cellsP, roomP, foots_cons, foots_nil, foots_append, foot_pt, ptb, ptb_mapA, foot_mapA, factsP_mapA, foot_bun, List.append_nil, List.nil_append, List.cons_append, List.nodup_cons, List.nodup_nil, List.mem_cons, List.not_mem_nil, List.mem_singleton, List.forall_mem_cons, not_or, not_false_eq_true, and_true, true_and, or_false, false_or, forall_eq_or_imp, forall_eq, implies_true, Nat.zero_add, Nat.reduceAdd, and_assoc, upd_listA, upd_mapA, upd_bun, upd_fam, upd_datasA, ptb_datasA, factsP_datasA, ptb_listA, factsP_listA, factsP_mapA, ptb_mapA, Nat.mul_one, factsP_bun, ptb_bun, ptb_fam, factsP_fam, factsP_errA, ptb_errA, upd_errA, entCells] at cs1))
                    clear O cs cs1
                    have O := O1
                    clear O1
                    simp only [List.nil_append] at O
                    have cs := O.facts
                    try simp only [factsP, cellsP, roomP, foots_cons, foots_nil, foots_append, foot_pt, ptb, ptb_mapA, foot_mapA, factsP_mapA, foot_bun, List.append_nil, List.nil_append, List.cons_append, List.nodup_cons, List.nodup_nil, List.mem_cons, List.not_mem_nil, List.mem_singleton, List.forall_mem_cons, not_or, not_false_eq_true, and_true, true_and, or_false, false_or, forall_eq_or_imp, forall_eq, implies_true, Nat.zero_add, Nat.reduceAdd, and_assoc, upd_listA, upd_mapA, upd_bun, upd_fam, upd_datasA, ptb_datasA, factsP_datasA, ptb_listA, factsP_listA, factsP_mapA, ptb_mapA, Nat.mul_one, factsP_bun, ptb_bun, ptb_fam, factsP_fam, factsP_errA, ptb_errA, upd_errA, entCells] at cs
                    go_upto_region 27 with ((at_builtin; refine entTy.wl_app ((O.alloc (entCells ((key, val))) 65).front1 [false, true] rfl) rfl rfl (by simp) rfl [((key, val))] rfl rfl (src_one (x := ((key, val))) (fun _ => rfl) (O.alloc (entCells ((key, val))) 65) (List.mem_cons_self ..)) (by first | (simp; done) | (simp; omega)) ?_; intro B2 d2 wc O4; have cs1 := O4.facts; simp only [rst, factsP, cellsP, roomP, foots_cons, foots_nil, foots_append, foot_pt, ptb, ptb_mapA, foot_mapA, factsP_mapA, foot_bun, List.append_nil, List.nil_append, List.cons_append, List.nodup_cons, List.nodup_nil, List.mem_cons, List.not_mem_nil, List.mem_singleton, List.forall_mem_cons, not_or, not_false_eq_true, and_true, true_and, or_false, false_or, forall_eq_or_imp, forall_eq, implies_true, Nat.zero_add, Nat.reduceAdd, and_assoc, upd_listA, upd_mapA, upd_bun, upd_fam, upd_datasA, ptb_datasA, factsP_datasA, ptb_listA, factsP_listA, factsP_mapA, ptb_mapA, Nat.mul_one, factsP_bun, ptb_bun, ptb_fam, factsP_fam, factsP_errA, ptb_errA, upd_errA, entCells] at cs1))
                    clear cs O
                    have cs := cs1
                    clear cs1
                    have O := O4.unfront
                    simp only [put, List.cons_append, List.nil_append] at O
                    clear O4
                    clear cs
                    replace O := O.sel [false, true, true, true, true, true, true]
                    simp only [Tk.sel] at O
                    have cs := O.facts
                    try simp only [factsP, cellsP, roomP, foots_cons, foots_nil, foots_append, foot_pt, ptb, ptb_mapA, foot_mapA, factsP_mapA, foot_bun, List.append_nil, List.nil_append, List.cons_append, List.nodup_cons, List.nodup_nil, List.mem_cons, List.not_mem_nil, List.mem_singleton, List.forall_mem_cons, not_or, not_false_eq_true, and_true, true_and, or_false, false_or, forall_eq_or_imp, forall_eq, implies_true, Nat.zero_add, Nat.reduceAdd, and_assoc, upd_listA, upd_mapA, upd_bun, upd_fam, upd_datasA, ptb_datasA, factsP_datasA, ptb_listA, factsP_listA, factsP_mapA, ptb_mapA, Nat.mul_one, factsP_bun, ptb_bun, ptb_fam, factsP_fam, factsP_errA, ptb_errA, upd_errA, entCells] at cs
                    go_wp2_with ((at_builtin; refine entTy.wl_app O rfl rfl (by first | rfl | (simp; done)) rfl [] rfl rfl ⟨rfl, fun h => absurd h (Nat.lt_irrefl 0)⟩ (by simp) ?_; intro B3 d3 w8 O1; have cs1 := O1.facts; simp only [factsP, cellsP, roomP, foots_cons, foots_nil, foots_append, foot_pt, ptb, ptb_mapA, foot_mapA, factsP_mapA, foot_bun, List.append_nil, List.nil_append, List.cons_append, List.nodup_cons, List.nodup_nil, List.mem_cons, List.not_mem_nil, List.mem_singleton, List.forall_mem_cons, not_or, not_false_eq_true, and_true, true_and, or_false, false_or, forall_eq_or_imp, forall_eq, implies_true, Nat.zero_add, Nat.reduceAdd, and_assoc, upd_listA, upd_mapA, upd_bun, upd_fam, upd_datasA, ptb_datasA, factsP_datasA, ptb_listA, factsP_listA, factsP_mapA, ptb_mapA, Nat.mul_one, factsP_bun, ptb_bun, ptb_fam, factsP_fam, factsP_errA, ptb_errA, upd_errA, entCells] at cs1))
                    clear O cs cs1
                    have O := O1
                    clear O1
                    go_roundw
                    case rel => exact ⟨k + 1, ls2, B3, d3, [(key, val)], by omega, by omega, by go_num, by simp, (O.sel [true, false, false, true, true, true]), HM3⟩
                    case measure => simp [intOf]; omega
                  | some ga =>
                    obtain ⟨g, cur, hg', _, hcap, hcap2, _⟩ := listA_some (O.hold (entsA (some ga) c m) (by simp))
                    subst hg'
                    unfold maxLen at hcap2
                    have S1 := Lib.hid (listA_src_take (k := at0) entLen (O.hold (entsA (some ⟨g, 0, none⟩) c m) (by simp)) hatm)
                    rw [← HT.out] at S1
                    have hkc : (at0 : Int) ≤ (c : Int) := by omega
                    have hkl : (at0 : Int) ≤ (m.length : Int) := by omega
                    skip
                    have cs := O.facts
                    try simp only [factsP, cellsP, roomP, foots_cons, foots_nil, foots_append, foot_pt, ptb, ptb_mapA, foot_mapA, factsP_mapA, foot_bun, List.append_nil, List.nil_append, List.cons_append, List.nodup_cons, List.nodup_nil, List.mem_cons, List.not_mem_nil, List.mem_singleton, List.forall_mem_cons, not_or, not_false_eq_true, and_true, true_and, or_false, false_or, forall_eq_or_imp, forall_eq, implies_true, Nat.zero_add, Nat.reduceAdd, and_assoc, upd_listA, upd_mapA, upd_bun, upd_fam, upd_datasA, ptb_datasA, factsP_datasA, ptb_listA, factsP_listA, factsP_mapA, ptb_mapA, Nat.mul_one, factsP_bun, ptb_bun, ptb_fam, factsP_fam, factsP_errA, ptb_errA, upd_errA, entCells] at cs
                    go_upto_region 26 with ((at_builtin; refine entTy.wl_app O rfl rfl rfl rfl T LT.out rfl S1.out (by have := LT.out; simp; omega) ?_; intro B1 d1 w5 O1; have cs1 := O1.facts; simp only [factsP, cellsP, roomP, foots_cons, foots_nil, foots_append, foot_pt, ptb, ptb_mapA, foot_mapA, factsP_mapA, foot_bun, List.append_nil, List.nil_append, List.cons_append, List.nodup_cons, List.nodup_nil, List.mem_cons, List.not_mem_nil, List.mem_singleton, List.forall_mem_cons, not_or, not_false_eq_true, and_true, true_and, or_false, false_or, forall_eq_or_imp, forall_eq, implies_true, Nat.zero_add, Nat.reduceAdd, and_assoc, upd_listA, upd_mapA, upd_bun, upd_fam, upd_datasA, ptb_datasA, factsP_datasA, ptb_listA, factsP_listA, factsP_mapA, ptb_mapA, Nat.mul_one, factsP_bun, ptb_bun, ptb_fam, factsP_fam, factsP_errA, ptb_errA, upd_errA, entCells] at cs1))
                    clear O cs cs1
                    have O := O1
                    clear O1
                    simp only [List.nil_append] at O
                    clear S1
                    have cs := O.facts
                    try simp only [factsP, cellsP, roomP, foots_cons, foots_nil, foots_append, foot_pt, ptb, ptb_mapA, foot_mapA, factsP_mapA, foot_bun, List.append_nil, List.nil_append, List.cons_append, List.nodup_cons, List.nodup_nil, List.mem_cons, List.not_mem_nil, List.mem_singleton, List.forall_mem_cons, not_or, not_false_eq_true, and_true, true_and, or_false, false_or, forall_eq_or_imp, forall_eq, implies_true, Nat.zero_add, Nat.reduceAdd, and_assoc, upd_listA, upd_mapA, upd_bun, upd_fam, upd_datasA, ptb_datasA, factsP_datasA, ptb_listA, factsP_listA, factsP_mapA, ptb_mapA, Nat.mul_one, factsP_bun, ptb_bun, ptb_fam, factsP_fam, factsP_errA, ptb_errA, upd_errA, entCells] at cs
                    go_upto_region 27 with ((at_builtin; refine entTy.wl_app ((O.alloc (entCells ((key, val))) 65).front1 [false, true] rfl) rfl rfl (by simp) rfl [((key, val))] rfl rfl (src_one (x := ((key, val))) (fun _ => rfl) (O.alloc (entCells ((key, val))) 65) (List.mem_cons_self ..)) (by first | (simp; done) | (simp; omega)) ?_; intro B2 d2 wc O4; have cs1 := O4.facts; simp only [rst, factsP, cellsP, roomP, foots_cons, foots_nil, foots_append, foot_pt, ptb, ptb_mapA, foot_mapA, factsP_mapA, foot_bun, List.append_nil, List.nil_append, List.cons_append, List.nodup_cons, List.nodup_nil, List.mem_cons, List.not_mem_nil, List.mem_singleton, List.forall_mem_cons, not_or, not_false_eq_true, and_true, true_and, or_false, false_or, forall_eq_or_imp, forall_eq, implies_true, Nat.zero_add, Nat.reduceAdd, and_assoc, upd_listA, upd_mapA, upd_bun, upd_fam, upd_datasA, ptb_datasA, factsP_datasA, ptb_listA, factsP_listA, factsP_mapA, ptb_mapA, Nat.mul_one, factsP_bun, ptb_bun, ptb_fam, factsP_fam, factsP_errA, ptb_errA, upd_errA, entCells] at cs1))
                    clear cs O
                    have cs := cs1
                    clear cs1
                    have O := O4.unfront
                    simp only [put, List.cons_append, List.nil_append] at O
                    clear O4
                    clear cs
                    replace O := O.sel [false, true, true, true, true, true, true]
                    simp only [Tk.sel] at O
                    cases th with
                    | true =>
                      have hkt : at0 < m.length := Nat.lt_of_not_le fun h => by
                        have h1 := th_end (k := key) (m := m) (by rw [← HAT.out]; exact h)
                        rw [← HTH.out] at h1
                        simp at h1
                      have HPK : ∀ D, D = m.drop (at0 + 1) → T ++ [(key, val)] ++ D = putK key val m := fun D hD => putK_at HAT.out.symm HT.out hD (by rw [← HTH.out]; rfl)
                      have HPL := Lib.hid HPK
                      clear HPK
                      have hk2l : at0 + 1 ≤ m.length := by omega
                      obtain ⟨D, hD⟩ : ∃ D, D = m.drop (at0 + 1) := ⟨_, rfl⟩
                      have HD := Lib.hid hD
                      have S2 := Lib.hid (listA_src_drop (k := at0 + 1) entLen (O.hold _ (List.mem_cons_of_mem _ (List.mem_cons_of_mem _ (List.mem_cons_self ..)))) hk2l)
                      rw [← hD] at S2
                      have L2 : Hid (D.length = m.length - (at0 + 1)) := Lib.hid (by rw [hD]; simp)
                      have hk2li : (at0 : Int) + 1 ≤ (m.length : Int) := by omega
                      have hk2c : (at0 : Int) + 1 ≤ (c : Int) := by omega
                      clear hD hk2l
                      by_cases hkc2 : at0 + 1 = c
                      · have hkc4 : (at0 : Int) + 1 = (c : Int) := by omega
                        obtain rfl : D = [] := by rw [HD.out]; exact List.drop_eq_nil_of_le (by omega)
                        clear hkc2 L2 S2
                        have cs := O.facts
                        try simp only [factsP, cellsP, roomP, foots_cons, foots_nil, foots_append, foot_pt, ptb, ptb_mapA, foot_mapA, factsP_mapA, foot_bun, List.append_nil, List.nil_append, List.cons_append, List.nodup_cons, List.nodup_nil, List.mem_cons, List.not_mem_nil, List.mem_singleton, List.forall_mem_cons, not_or, not_false_eq_true, and_true, true_and, or_false, false_or, forall_eq_or_imp, forall_eq, implies_true, Nat.zero_add, Nat.reduceAdd, and_assoc, upd_listA, upd_mapA, upd_bun, upd_fam, upd_datasA, ptb_datasA, factsP_datasA, ptb_listA, factsP_listA, factsP_mapA, ptb_mapA, Nat.mul_one, factsP_bun, ptb_bun, ptb_fam, factsP_fam, factsP_errA, ptb_errA, upd_errA, entCells] at cs
                        go_wp2_with ((at_builtin; refine entTy.wl_app O rfl rfl (by first | rfl | (simp; done)) rfl [] rfl rfl ⟨rfl, fun h => absurd h (Nat.lt_irrefl 0)⟩ (by have := LT.out; first | (simp; done) | (simp; omega)) ?_; intro B3 d3 w8 O1; have cs1 := O1.facts; simp only [factsP, cellsP, roomP, foots_cons, foots_nil, foots_append, foot_pt, ptb, ptb_mapA, foot_mapA, factsP_mapA, foot_bun, List.append_nil, List.nil_append, List.cons_append, List.nodup_cons, List.nodup_nil, List.mem_cons, List.not_mem_nil, List.mem_singleton, List.forall_mem_cons, not_or, not_false_eq_true, and_true, true_and, or_false, false_or, forall_eq_or_imp, forall_eq, implies_true, Nat.zero_add, Nat.reduceAdd, and_assoc, upd_listA, upd_mapA, upd_bun, upd_fam, upd_datasA, ptb_datasA, factsP_datasA, ptb_listA, factsP_listA, factsP_mapA, ptb_mapA, Nat.mul_one, factsP_bun, ptb_bun, ptb_fam, factsP_fam, factsP_errA, ptb_errA, upd_errA, entCells] at cs1))
                        clear O cs cs1
                        have O := O1
                        clear O1
                        go_roundw
                        case rel => exact ⟨k + 1, ls2, B3, d3, T ++ [(key, val)] ++ [], by omega, by omega, by go_num, by simp, O.sel [true, false, false, true, true, true], (Lib.hid ⟨HM2.out.1, by rw [HPL.out _ HD.out]; exact HM2.out.2⟩)⟩
                        case measure => simp [intOf]; omega
                      · have hkc3 : (at0 : Int) + 1 < (c : Int) := by omega
                        clear hkc2
                        have cs := O.facts
                        try simp only [factsP, cellsP, roomP, foots_cons, foots_nil, foots_append, foot_pt, ptb, ptb_mapA, foot_mapA, factsP_mapA, foot_bun, List.append_nil, List.nil_append, List.cons_append, List.nodup_cons, List.nodup_nil, List.mem_cons, List.not_mem_nil, List.mem_singleton, List.forall_mem_cons, not_or, not_false_eq_true, and_true, true_and, or_false, false_or, forall_eq_or_imp, forall_eq, implies_true, Nat.zero_add, Nat.reduceAdd, and_assoc, upd_listA, upd_mapA, upd_bun, upd_fam, upd_datasA, ptb_datasA, factsP_datasA, ptb_listA, factsP_listA, factsP_mapA, ptb_mapA, Nat.mul_one, factsP_bun, ptb_bun, ptb_fam, factsP_fam, factsP_errA, ptb_errA, upd_errA, entCells] at cs
                        go_wp2_with ((at_builtin; refine entTy.wl_app O rfl rfl (by first | rfl | (simp; done)) rfl D L2.out rfl (by have := S2.out; simpa using this) (by have := L2.out; have := LT.out; simp; omega) ?_; intro B3 d3 w8 O1; have cs1 := O1.facts; simp only [factsP, cellsP, roomP, foots_cons, foots_nil, foots_append, foot_pt, ptb, ptb_mapA, foot_mapA, factsP_mapA, foot_bun, List.append_nil, List.nil_append, List.cons_append, List.nodup_cons, List.nodup_nil, List.mem_cons, List.not_mem_nil, List.mem_singleton, List.forall_mem_cons, not_or, not_false_eq_true, and_true, true_and, or_false, false_or, forall_eq_or_imp, forall_eq, implies_true, Nat.zero_add, Nat.reduceAdd, and_assoc, upd_listA, upd_mapA, upd_bun, upd_fam, upd_datasA, ptb_datasA, factsP_datasA, ptb_listA, factsP_listA, factsP_mapA, ptb_mapA, Nat.mul_one, factsP_bun, ptb_bun, ptb_fam, factsP_fam, factsP_errA, ptb_errA, upd_errA, entCells] at cs1))
                        clear O cs cs1
                        have O := O1
                        clear O1
                        go_roundw
                        case rel => exact ⟨k + 1, ls2, B3, d3, T ++ [(key, val)] ++ D, by omega, by omega, by go_num, by simp, O.sel [true, false, false, true, true, true], (Lib.hid ⟨HM2.out.1, by rw [HPL.out _ HD.out]; exact HM2.out.2⟩)⟩
                        case measure => simp [intOf]; omega
                    | false =>
                      have HPK : ∀ D, D = m.drop at0 → T ++ [(key, val)] ++ D = putK key val m := fun D hD => putK_at HAT.out.symm HT.out hD (by rw [← HTH.out]; rfl)
                      have HPL := Lib.hid HPK
                      clear HPK
                      have hk2l : at0 ≤ m.length := by omega
                      obtain ⟨D, hD⟩ : ∃ D, D = m.drop (at0) := ⟨_, rfl⟩
                      have HD := Lib.hid hD
                      have S2 := Lib.hid (listA_src_drop (k := at0) entLen (O.hold _ (List.mem_cons_of_mem _ (List.mem_cons_of_mem _ (List.mem_cons_self ..)))) hk2l)
                      rw [← hD] at S2
                      have L2 : Hid (D.length = m.length - (at0)) := Lib.hid (by rw [hD]; simp)
                      have hk2li : (at0 : Int) ≤ (m.length : Int) := by omega
                      have hk2c : (at0 : Int) ≤ (c : Int) := by omega
                      clear hD hk2l
                      by_cases hkc2 : at0 = c
                      · have hkc4 : (at0 : Int) = (c : Int) := by omega
                        obtain rfl : D = [] := by rw [HD.out]; exact List.drop_eq_nil_of_le (by omega)
                        clear hkc2 L2 S2
                        have cs := O.facts
                        try simp only [factsP, cellsP, roomP, foots_cons, foots_nil, foots_append, foot_pt, ptb, ptb_mapA, foot_mapA, factsP_mapA, foot_bun, List.append_nil, List.nil_append, List.cons_append, List.nodup_cons, List.nodup_nil, List.mem_cons, List.not_mem_nil, List.mem_singleton, List.forall_mem_cons, not_or, not_false_eq_true, and_true, true_and, or_false, false_or, forall_eq_or_imp, forall_eq, implies_true, Nat.zero_add, Nat.reduceAdd, and_assoc, upd_listA, upd_mapA, upd_bun, upd_fam, upd_datasA, ptb_datasA, factsP_datasA, ptb_listA, factsP_listA, factsP_mapA, ptb_mapA, Nat.mul_one, factsP_bun, ptb_bun, ptb_fam, factsP_fam, factsP_errA, ptb_errA, upd_errA, entCells] at cs
                        go_wp2_with ((at_builtin; refine entTy.wl_app O rfl rfl (by first | rfl | (simp; done)) rfl [] rfl rfl ⟨rfl, fun h => absurd h (Nat.lt_irrefl 0)⟩ (by have := LT.out; first | (simp; done) | (simp; omega)) ?_; intro B3 d3 w8 O1; have cs1 := O1.facts; simp only [factsP, cellsP, roomP, foots_cons, foots_nil, foots_append, foot_pt, ptb, ptb_mapA, foot_mapA, factsP_mapA, foot_bun, List.append_nil, List.nil_append, List.cons_append, List.nodup_cons, List.nodup_nil, List.mem_cons, List.not_mem_nil, List.mem_singleton, List.forall_mem_cons, not_or, not_false_eq_true, and_true, true_and, or_false, false_or, forall_eq_or_imp, forall_eq, implies_true, Nat.zero_add, Nat.reduceAdd, and_assoc, upd_listA, upd_mapA, upd_bun, upd_fam, upd_datasA, ptb_datasA, factsP_datasA, ptb_listA, factsP_listA, factsP_mapA, ptb_mapA, Nat.mul_one, factsP_bun, ptb_bun, ptb_fam, factsP_fam, factsP_errA, ptb_errA, upd_errA, entCells] at cs1))
                        clear O cs cs1
                        have O := O1
                        clear O1
                        go_roundw
                        case rel => exact ⟨k + 1, ls2, B3, d3, T ++ [(key, val)] ++ [], by omega, by omega, by go_num, by simp, O.sel [true, false, false, true, true, true], (Lib.hid ⟨HM2.out.1, by rw [HPL.out _ HD.out]; exact HM2.out.2⟩)⟩
                        case measure => simp [intOf]; omega
                      · have hkc3 : (at0 : Int) < (c : Int) := by omega
                        clear hkc2
                        have cs := O.facts
                        try simp only [factsP, cellsP, roomP, foots_cons, foots_nil, foots_append, foot_pt, ptb, ptb_mapA, foot_mapA, factsP_mapA, foot_bun, List.append_nil, List.nil_append, List.cons_append, List.nodup_cons, List.nodup_nil, List.mem_cons, List.not_mem_nil, List.mem_singleton, List.forall_mem_cons, not_or, not_false_eq_true, and_true, true_and, or_false, false_or, forall_eq_or_imp, forall_eq, implies_true, Nat.zero_add, Nat.reduceAdd, and_assoc, upd_listA, upd_mapA, upd_bun, upd_fam, upd_datasA, ptb_datasA, factsP_datasA, ptb_listA, factsP_listA, factsP_mapA, ptb_mapA, Nat.mul_one, factsP_bun, ptb_bun, ptb_fam, factsP_fam, factsP_errA, ptb_errA, upd_errA, entCells] at cs
                        go_wp2_with ((at_builtin; refine entTy.wl_app O rfl rfl (by first | rfl | (simp; done)) rfl D L2.out rfl (by have := S2.out; simpa using this) (by have := L2.out; have := LT.out; simp; omega) ?_; intro B3 d3 w8 O1; have cs1 := O1.facts; simp only [factsP, cellsP, roomP, foots_cons, foots_nil, foots_append, foot_pt, ptb, ptb_mapA, foot_mapA, factsP_mapA, foot_bun, List.append_nil, List.nil_append, List.cons_append, List.nodup_cons, List.nodup_nil, List.mem_cons, List.not_mem_nil, List.mem_singleton, List.forall_mem_cons, not_or, not_false_eq_true, and_true, true_and, or_false, false_or, forall_eq_or_imp, forall_eq, implies_true, Nat.zero_add, Nat.reduceAdd, and_assoc, upd_listA, upd_mapA, upd_bun, upd_fam, upd_datasA, ptb_datasA, factsP_datasA, ptb_listA, factsP_listA, factsP_mapA, ptb_mapA, Nat.mul_one, factsP_bun, ptb_bun, ptb_fam, factsP_fam, factsP_errA, ptb_errA, upd_errA, entCells] at cs1))
                        clear O cs cs1
                        have O := O1
                        clear O1
                        go_roundw
                        case rel => exact ⟨k + 1, ls2, B3, d3, T ++ [(key, val)] ++ D, by omega, by omega, by go_num, by simp, O.sel [true, false, false, true, true, true], (Lib.hid ⟨HM2.out.1, by rw [HPL.out _ HD.out]; exact HM2.out.2⟩)⟩
                        case measure => simp [intOf]; omega
              · have h3' : (kd == 3) = false := by simpa using h3
                clear h3
                by_cases h4 : kd = 4
                · subst h4
                  have CP := Lib.hid (fun W hW => s_Delete W S false ls key HOK.out.key HM.out.1.ok.logs hW)
                  have HDS : Hid ((codeP false (ls.map LogM.p) key .empty = 0 → (delS false (ls.map LogM.p) key).1 = isK key m ∧ mOf (delS false (ls.map LogM.p) key).2 = if isK key m = true then delK key m else m) ∧ (codeP false (ls.map LogM.p) key .empty ≠ 0 → m = mOf (delS false (ls.map LogM.p) key).2) ∧ IsM (delS false (ls.map LogM.p) key).2) :=
                    Lib.hid ⟨fun hc => by rw [HM.out.2]; exact mo_del HM.out.1 hc, fun hc => by rw [del_no hc]; exact HM.out.2, HM.out.1.del key⟩
                  generalize delS false (ls.map LogM.p) key = ds at CP HDS
                  generalize codeP false (ls.map LogM.p) key .empty = cd at CP HDS
                  obtain ⟨is, ps2⟩ := ds
                  simp only [SesH.val] at CP HDS
                  skip
                  have cs := O.facts
                  try simp only [factsP, cellsP, roomP, foots_cons, foots_nil, foots_append, foot_pt, ptb, ptb_mapA, foot_mapA, factsP_mapA, foot_bun, List.append_nil, List.nil_append, List.cons_append, List.nodup_cons, List.nodup_nil, List.mem_cons, List.not_mem_nil, List.mem_singleton, List.forall_mem_cons, not_or, not_false_eq_true, and_true, true_and, or_false, false_or, forall_eq_or_imp, forall_eq, implies_true, Nat.zero_add, Nat.reduceAdd, and_assoc, upd_listA, upd_mapA, upd_bun, upd_fam, upd_datasA, ptb_datasA, factsP_datasA, ptb_listA, factsP_listA, factsP_mapA, ptb_mapA, Nat.mul_one, factsP_bun, ptb_bun, ptb_fam, factsP_fam, factsP_errA, ptb_errA, upd_errA, entCells] at cs
                  go_wp2_with fail
                  refine (CP.out _ (O.pre [false, false, true, true, true])).mono ?_
                  rintro e w4 ⟨q, ls2, rfl, hq, hp, o⟩
                  have O2 := (O.callp [false, false, true, true, true] o).sel [true, true, true, true, true]
                  clear O o CP
                  simp only [sesL, put, Tk.sel, List.cons_append, List.nil_append] at O2
                  have O := O2
                  clear O2
                  cases q with
                  | some fb =>
                    have hne : cd ≠ 0 := fun e => by have := hq.2 e; simp at this
                    have HM2 : Hid (IsM (ls2.map LogM.p) ∧ m = mOf (ls2.map LogM.p)) := Lib.hid (by rw [hp]; exact ⟨HDS.out.2.2, HDS.out.2.1 hne⟩)
                    clear hne hp hq
                    simp only [errV_some]
                    have cs := O.facts
                    try simp only [factsP, cellsP, roomP, foots_cons, foots_nil, foots_append, foot_pt, ptb, ptb_mapA, foot_mapA, factsP_mapA, foot_bun, List.append_nil, List.nil_append, List.cons_append, List.nodup_cons, List.nodup_nil, List.mem_cons, List.not_mem_nil, List.mem_singleton, List.forall_mem_cons, not_or, not_false_eq_true, and_true, true_and, or_false, false_or, forall_eq_or_imp, forall_eq, implies_true, Nat.zero_add, Nat.reduceAdd, and_assoc, upd_listA, upd_mapA, upd_bun, upd_fam, upd_datasA, ptb_datasA, factsP_datasA, ptb_listA, factsP_listA, factsP_mapA, ptb_mapA, Nat.mul_one, factsP_bun, ptb_bun, ptb_fam, factsP_fam, factsP_errA, ptb_errA, upd_errA, entCells] at cs
                    go_wp2_with fail
                    go_roundw
                    case rel => exact ⟨k + 1, ls2, A, c, m, by omega, by omega, by go_num, by rfl, O.sel [false, true, true, true, true], HM2⟩
                    case measure => simp [intOf]; omega
                  | none =>
                    have hcd := hq.1 rfl
                    obtain ⟨e1, e2⟩ := HDS.out.1 hcd
                    obtain rfl : is = th := by rw [HTH.out]; exact e1
                    rw [← HTH.out] at e2
                    simp only [errV_none]
                    cases is with
                    | false =>
                      have HM2 : Hid (IsM (ls2.map LogM.p) ∧ m = mOf (ls2.map LogM.p)) := Lib.hid (by rw [hp]; exact ⟨HDS.out.2.2, by rw [e2]; rfl⟩)
                      clear hcd e1 e2 hp hq
                      skip
                      have cs := O.facts
                      try simp only [factsP, cellsP, roomP, foots_cons, foots_nil, foots_append, foot_pt, ptb, ptb_mapA, foot_mapA, factsP_mapA, foot_bun, List.append_nil, List.nil_append, List.cons_append, List.nodup_cons, List.nodup_nil, List.mem_cons, List.not_mem_nil, List.mem_singleton, List.forall_mem_cons, not_or, not_false_eq_true, and_true, true_and, or_false, false_or, forall_eq_or_imp, forall_eq, implies_true, Nat.zero_add, Nat.reduceAdd, and_assoc, upd_listA, upd_mapA, upd_bun, upd_fam, upd_datasA, ptb_datasA, factsP_datasA, ptb_listA, factsP_listA, factsP_mapA, ptb_mapA, Nat.mul_one, factsP_bun, ptb_bun, ptb_fam, factsP_fam, factsP_errA, ptb_errA, upd_errA, entCells] at cs
                      go_wp2_with fail
                      go_roundw
                      case rel => exact ⟨k + 1, ls2, A, c, m, by omega, by omega, by go_num, by rfl, O.sel [false, true, true, true, true], HM2⟩
                      case measure => simp [intOf]; omega
                    | true =>
                      have HM2 : Hid (IsM (ls2.map LogM.p) ∧ delK key m = mOf (ls2.map LogM.p)) := Lib.hid (by rw [hp]; exact ⟨HDS.out.2.2, by rw [e2]; rfl⟩)
                      clear hcd e1 e2 hp hq
                      have hkt : at0 < m.length := Nat.lt_of_not_le fun h => by
                        have h1 := th_end (k := key) (m := m) (by rw [← HAT.out]; exact h)
                        rw [← HTH.out] at h1
                        simp at h1
                      obtain ⟨T, hT⟩ : ∃ T, T = m.take at0 := ⟨_, rfl⟩
                      have HT := Lib.hid hT
                      have LT : Hid (T.length = at0) := Lib.hid (by rw [hT]; simp; omega)
                      have HPK : ∀ D, D = m.drop (at0 + 1) → T ++ D = delK key m := fun D hD => by
                        rw [delK_split HTH.out.symm, ← HAT.out, hD, hT]
                      have HPL := Lib.hid HPK
                      clear hT HPK
                      replace O := O.listNil (e := 65) (size := 2) (cs := entCells)
                      cases A with
                      | none =>
                        obtain ⟨hm0, hc0⟩ := listA_none (O.hold (entsA none c m) (by simp))
                        rw [hm0] at hkt
                        exact absurd hkt (Nat.not_lt_zero _)
                      | some ga =>
                        obtain ⟨g, cur, hg', _, hcap, hcap2, _⟩ := listA_some (O.hold (entsA (some ga) c m) (by simp))
                        subst hg'
                        unfold maxLen at hcap2
                        have S1 := Lib.hid (listA_src_take (k := at0) entLen (O.hold (entsA (some ⟨g, 0, none⟩) c m) (by simp)) hatm)
                        rw [← HT.out] at S1
                        have hkc : (at0 : Int) ≤ (c : Int) := by omega
                        have hkl : (at0 : Int) ≤ (m.length : Int) := by omega
                        skip
                        have cs := O.facts
                        try simp only [factsP, cellsP, roomP, foots_cons, foots_nil, foots_append, foot_pt, ptb, ptb_mapA, foot_mapA, factsP_mapA, foot_bun, List.append_nil, List.nil_append, List.cons_append, List.nodup_cons, List.nodup_nil, List.mem_cons, List.not_mem_nil, List.mem_singleton, List.forall_mem_cons, not_or, not_false_eq_true, and_true, true_and, or_false, false_or, forall_eq_or_imp, forall_eq, implies_true, Nat.zero_add, Nat.reduceAdd, and_assoc, upd_listA, upd_mapA, upd_bun, upd_fam, upd_datasA, ptb_datasA, factsP_datasA, ptb_listA, factsP_listA, factsP_mapA, ptb_mapA, Nat.mul_one, factsP_bun, ptb_bun, ptb_fam, factsP_fam, factsP_errA, ptb_errA, upd_errA, entCells] at cs
                        go_upto_region 38 with ((at_builtin; refine entTy.wl_app O rfl rfl rfl rfl T LT.out rfl S1.out (by have := LT.out; simp; omega) ?_; intro B1 d1 w5 O1; have cs1 := O1.facts; simp only [factsP, cellsP, roomP, foots_cons, foots_nil, foots_append, foot_pt, ptb, ptb_mapA, foot_mapA, factsP_mapA, foot_bun, List.append_nil, List.nil_append, List.cons_append, List.nodup_cons, List.nodup_nil, List.mem_cons, List.not_mem_nil, List.mem_singleton, List.forall_mem_cons, not_or, not_false_eq_true, and_true, true_and, or_false, false_or, forall_eq_or_imp, forall_eq, implies_true, Nat.zero_add, Nat.reduceAdd, and_assoc, upd_listA, upd_mapA, upd_bun, upd_fam, upd_datasA, ptb_datasA, factsP_datasA, ptb_listA, factsP_listA, factsP_mapA, ptb_mapA, Nat.mul_one, factsP_bun, ptb_bun, ptb_fam, factsP_fam, factsP_errA, ptb_errA, upd_errA, entCells] at cs1))
                        clear O cs cs1
                        have O := O1
                        clear O1
                        simp only [List.nil_append] at O
                        clear S1
                        have hk2l : at0 + 1 ≤ m.length := by omega
                        obtain ⟨D, hD⟩ : ∃ D, D = m.drop (at0 + 1) := ⟨_, rfl⟩
                        have HD := Lib.hid hD
                        have S2 := Lib.hid (listA_src_drop (k := at0 + 1) entLen (O.hold _ (List.mem_cons_of_mem _ (List.mem_cons_of_mem _ (List.mem_cons_self ..)))) hk2l)
                        rw [← hD] at S2
                        have L2 : Hid (D.length = m.length - (at0 + 1)) := Lib.hid (by rw [hD]; simp)
                        have hk2li : (at0 : Int) + 1 ≤ (m.length : Int) := by omega
                        have hk2c : (at0 : Int) + 1 ≤ (c : Int) := by omega
                        clear hD hk2l
                        by_cases hkc2 : at0 + 1 = c
                        · have hkc4 : (at0 : Int) + 1 = (c : Int) := by omega
                          obtain rfl : D = [] := by rw [HD.out]; exact List.drop_eq_nil_of_le (by omega)
                          clear hkc2 L2 S2
                          have cs := O.facts
                          try simp only [factsP, cellsP, roomP, foots_cons, foots_nil, foots_append, foot_pt, ptb, ptb_mapA, foot_mapA, factsP_mapA, foot_bun, List.append_nil, List.nil_append, List.cons_append, List.nodup_cons, List.nodup_nil, List.mem_cons, List.not_mem_nil, List.mem_singleton, List.forall_mem_cons, not_or, not_false_eq_true, and_true, true_and, or_false, false_or, forall_eq_or_imp, forall_eq, implies_true, Nat.zero_add, Nat.reduceAdd, and_assoc, upd_listA, upd_mapA, upd_bun, upd_fam, upd_datasA, ptb_datasA, factsP_datasA, ptb_listA, factsP_listA, factsP_mapA, ptb_mapA, Nat.mul_one, factsP_bun, ptb_bun, ptb_fam, factsP_fam, factsP_errA, ptb_errA, upd_errA, entCells] at cs
                          go_wp2_with ((at_builtin; refine entTy.wl_app O rfl rfl (by first | rfl | (simp; done)) rfl [] rfl rfl ⟨rfl, fun h => absurd h (Nat.lt_irrefl 0)⟩ (by have := LT.out; first | (simp; done) | (simp; omega)) ?_; intro B3 d3 w8 O1; have cs1 := O1.facts; simp only [factsP, cellsP, roomP, foots_cons, foots_nil, foots_append, foot_pt, ptb, ptb_mapA, foot_mapA, factsP_mapA, foot_bun, List.append_nil, List.nil_append, List.cons_append, List.nodup_cons, List.nodup_nil, List.mem_cons, List.not_mem_nil, List.mem_singleton, List.forall_mem_cons, not_or, not_false_eq_true, and_true, true_and, or_false, false_or, forall_eq_or_imp, forall_eq, implies_true, Nat.zero_add, Nat.reduceAdd, and_assoc, upd_listA, upd_mapA, upd_bun, upd_fam, upd_datasA, ptb_datasA, factsP_datasA, ptb_listA, factsP_listA, factsP_mapA, ptb_mapA, Nat.mul_one, factsP_bun, ptb_bun, ptb_fam, factsP_fam, factsP_errA, ptb_errA, upd_errA, entCells] at cs1))
                          clear O cs cs1
                          have O := O1
                          clear O1
                          go_roundw
                          case rel => exact ⟨k + 1, ls2, B3, d3, T ++ [], by omega, by omega, by go_num, by simp, O.sel [true, false, false, true, true, true], (Lib.hid ⟨HM2.out.1, by rw [HPL.out _ HD.out]; exact HM2.out.2⟩)⟩
                          case measure => simp [intOf]; omega
                        · have hkc3 : (at0 : Int) + 1 < (c : Int) := by omega
                          clear hkc2
                          have cs := O.facts
                          try simp only [factsP, cellsP, roomP, foots_cons, foots_nil, foots_append, foot_pt, ptb, ptb_mapA, foot_mapA, factsP_mapA, foot_bun, List.append_nil, List.nil_append, List.cons_append, List.nodup_cons, List.nodup_nil, List.mem_cons, List.not_mem_nil, List.mem_singleton, List.forall_mem_cons, not_or, not_false_eq_true, and_true, true_and, or_false, false_or, forall_eq_or_imp, forall_eq, implies_true, Nat.zero_add, Nat.reduceAdd, and_assoc, upd_listA, upd_mapA, upd_bun, upd_fam, upd_datasA, ptb_datasA, factsP_datasA, ptb_listA, factsP_listA, factsP_mapA, ptb_mapA, Nat.mul_one, factsP_bun, ptb_bun, ptb_fam, factsP_fam, factsP_errA, ptb_errA, upd_errA, entCells] at cs
                          go_wp2_with ((at_builtin; refine entTy.wl_app O rfl rfl (by first | rfl | (simp; done)) rfl D L2.out rfl (by have := S2.out; simpa using this) (by have := L2.out; have := LT.out; simp; omega) ?_; intro B3 d3 w8 O1; have cs1 := O1.facts; simp only [factsP, cellsP, roomP, foots_cons, foots_nil, foots_append, foot_pt, ptb, ptb_mapA, foot_mapA, factsP_mapA, foot_bun, List.append_nil, List.nil_append, List.cons_append, List.nodup_cons, List.nodup_nil, List.mem_cons, List.not_mem_nil, List.mem_singleton, List.forall_mem_cons, not_or, not_false_eq_true, and_true, true_and, or_false, false_or, forall_eq_or_imp, forall_eq, implies_true, Nat.zero_add, Nat.reduceAdd, and_assoc, upd_listA, upd_mapA, upd_bun, upd_fam, upd_datasA, ptb_datasA, factsP_datasA, ptb_listA, factsP_listA, factsP_mapA, ptb_mapA, Nat.mul_one, factsP_bun, ptb_bun, ptb_fam, factsP_fam, factsP_errA, ptb_errA, upd_errA, entCells] at cs1))
                          clear O cs cs1
                          have O := O1
                          clear O1
                          go_roundw
                          case rel => exact ⟨k + 1, ls2, B3, d3, T ++ D, by omega, by omega, by go_num, by simp, O.sel [true, false, false, true, true, true], (Lib.hid ⟨HM2.out.1, by rw [HPL.out _ HD.out]; exact HM2.out.2⟩)⟩
                          case measure => simp [intOf]; omega
                · have h4' : (kd == 4) = false := by simpa using h4
                  clear h4
                  have CP := Lib.hid (fun W hW => s_Get W S false ls key HOK.out.key HM.out.1.ok.logs hW)
                  have HDS : Hid (codeP false (ls.map LogM.p) key .empty = 0 → (gotP false (ls.map LogM.p) key).2 = isK key m ∧ (isK key m = true → (gotP false (ls.map LogM.p) key).1 = getK key m)) := Lib.hid (fun hc => by rw [HM.out.2]; exact mo_get HM.out.1 hc)
                  generalize gotP false (ls.map LogM.p) key = gs at CP HDS
                  generalize codeP false (ls.map LogM.p) key .empty = cd at CP HDS
                  obtain ⟨gv, is⟩ := gs
                  simp only [SesH.val] at CP HDS
                  skip
                  have cs := O.facts
                  try simp only [factsP, cellsP, roomP, foots_cons, foots_nil, foots_append, foot_pt, ptb, ptb_mapA, foot_mapA, factsP_mapA, foot_bun, List.append_nil, List.nil_append, List.cons_append, List.nodup_cons, List.nodup_nil, List.mem_cons, List.not_mem_nil, List.mem_singleton, List.forall_mem_cons, not_or, not_false_eq_true, and_true, true_and, or_false, false_or, forall_eq_or_imp, forall_eq, implies_true, Nat.zero_add, Nat.reduceAdd, and_assoc, upd_listA, upd_mapA, upd_bun, upd_fam, upd_datasA, ptb_datasA, factsP_datasA, ptb_listA, factsP_listA, factsP_mapA, ptb_mapA, Nat.mul_one, factsP_bun, ptb_bun, ptb_fam, factsP_fam, factsP_errA, ptb_errA, upd_errA, entCells] at cs
                  go_wp2_with fail
                  refine (CP.out _ (O.pre [false, false, true, true, true])).mono ?_
                  rintro e w4 ⟨q, rfl, hq, o⟩
                  replace O := (O.callp [false, false, false, false, false] o).sel [true, true, true, true, true]
                  clear o CP
                  simp only [Tk.sel, put] at O
                  cases q with
                  | some fb =>
                    clear hq
                    simp only [errV_some]
                    skip
                    have cs := O.facts
                    try simp only [factsP, cellsP, roomP, foots_cons, foots_nil, foots_append, foot_pt, ptb, ptb_mapA, foot_mapA, factsP_mapA, foot_bun, List.append_nil, List.nil_append, List.cons_append, List.nodup_cons, List.nodup_nil, List.mem_cons, List.not_mem_nil, List.mem_singleton, List.forall_mem_cons, not_or, not_false_eq_true, and_true, true_and, or_false, false_or, forall_eq_or_imp, forall_eq, implies_true, Nat.zero_add, Nat.reduceAdd, and_assoc, upd_listA, upd_mapA, upd_bun, upd_fam, upd_datasA, ptb_datasA, factsP_datasA, ptb_listA, factsP_listA, factsP_mapA, ptb_mapA, Nat.mul_one, factsP_bun, ptb_bun, ptb_fam, factsP_fam, factsP_errA, ptb_errA, upd_errA, entCells] at cs
                    go_wp2_with fail
                    go_roundw
                    case rel => exact ⟨k + 1, ls, A, c, m, by omega, by omega, by go_num, by rfl, O.sel [false, true, true, true, true], HM⟩
                    case measure => simp [intOf]; omega
                  | none =>
                    have hcd := hq.1 rfl
                    obtain ⟨e1, e2⟩ := HDS.out hcd
                    obtain rfl : is = th := by rw [HTH.out]; exact e1
                    simp only [errV_none]
                    cases is with
                    | false =>
                      clear hcd e1 e2 hq
                      skip
                      have cs := O.facts
                      try simp only [factsP, cellsP, roomP, foots_cons, foots_nil, foots_append, foot_pt, ptb, ptb_mapA, foot_mapA, factsP_mapA, foot_bun, List.append_nil, List.nil_append, List.cons_append, List.nodup_cons, List.nodup_nil, List.mem_cons, List.not_mem_nil, List.mem_singleton, List.forall_mem_cons, not_or, not_false_eq_true, and_true, true_and, or_false, false_or, forall_eq_or_imp, forall_eq, implies_true, Nat.zero_add, Nat.reduceAdd, and_assoc, upd_listA, upd_mapA, upd_bun, upd_fam, upd_datasA, ptb_datasA, factsP_datasA, ptb_listA, factsP_listA, factsP_mapA, ptb_mapA, Nat.mul_one, factsP_bun, ptb_bun, ptb_fam, factsP_fam, factsP_errA, ptb_errA, upd_errA, entCells] at cs
                      go_wp2_with fail
                      go_roundw
                      case rel => exact ⟨k + 1, ls, A, c, m, by omega, by omega, by go_num, by rfl, O.sel [false, true, true, true, true], HM⟩
                      case measure => simp [intOf]; omega
                    | true =>
                      obtain ⟨v0, hv0, hg0⟩ := isK_at HTH.out.symm
                      obtain rfl : gv = v0 := by rw [e2 HTH.out.symm, hg0]
                      rw [← HAT.out] at hv0
                      clear hcd e1 e2 hq hg0
                      obtain ⟨g, rfl, _⟩ := listA_get entLen (O.hold _ (List.mem_cons_of_mem _ (List.mem_cons_self ..))) hv0
                      have hkt : (at0 : Int) < (m.length : Int) := by have := (List.getElem?_eq_some_iff.1 hv0).1; omega
                      have HX := Lib.hid hv0
                      clear hv0
                      have hbl : ∀ l : List UInt8, (l == l) = true := fun l => by simp
                      skip
                      have cs := O.facts
                      try simp only [factsP, cellsP, roomP, foots_cons, foots_nil, foots_append, foot_pt, ptb, ptb_mapA, foot_mapA, factsP_mapA, foot_bun, List.append_nil, List.nil_append, List.cons_append, List.nodup_cons, List.nodup_nil, List.mem_cons, List.not_mem_nil, List.mem_singleton, List.forall_mem_cons, not_or, not_false_eq_true, and_true, true_and, or_false, false_or, forall_eq_or_imp, forall_eq, implies_true, Nat.zero_add, Nat.reduceAdd, and_assoc, upd_listA, upd_mapA, upd_bun, upd_fam, upd_datasA, ptb_datasA, factsP_datasA, ptb_listA, factsP_listA, factsP_mapA, ptb_mapA, Nat.mul_one, factsP_bun, ptb_bun, ptb_fam, factsP_fam, factsP_errA, ptb_errA, upd_errA, entCells] at cs
                      try have v1 := (listA_at entLen (O.hold _ (List.mem_cons_of_mem _ (List.mem_cons_self ..))) HX.out)
                      try simp only [cellsQ, roomP, and_assoc, and_true, true_and, Nat.add_zero, Nat.zero_add, Nat.reduceAdd, factsP, cellsP, roomP, foots_cons, foots_nil, foots_append, foot_pt, ptb, ptb_mapA, foot_mapA, factsP_mapA, foot_bun, List.append_nil, List.nil_append, List.cons_append, List.nodup_cons, List.nodup_nil, List.mem_cons, List.not_mem_nil, List.mem_singleton, List.forall_mem_cons, not_or, not_false_eq_true, and_true, true_and, or_false, false_or, forall_eq_or_imp, forall_eq, implies_true, Nat.zero_add, Nat.reduceAdd, and_assoc, upd_listA, upd_mapA, upd_bun, upd_fam, upd_datasA, ptb_datasA, factsP_datasA, ptb_listA, factsP_listA, factsP_mapA, ptb_mapA, Nat.mul_one, factsP_bun, ptb_bun, ptb_fam, factsP_fam, factsP_errA, ptb_errA, upd_errA, entCells] at v1
                      go_wp2_with fail
                      go_roundw
                      case rel => exact ⟨k + 1, ls, some ⟨g, 0, none⟩, c, m, by omega, by omega, by go_num, by rfl, O.sel [false, true, true, true, true], HM⟩
                      case measure => simp [intOf]; omega
        · simp only [sesL] at O
          skip
          have cs := O.facts
          try simp only [factsP, cellsP, roomP, foots_cons, foots_nil, foots_append, foot_pt, ptb, ptb_mapA, foot_mapA, factsP_mapA, foot_bun, List.append_nil, List.nil_append, List.cons_append, List.nodup_cons, List.nodup_nil, List.mem_cons, List.not_mem_nil, List.mem_singleton, List.forall_mem_cons, not_or, not_false_eq_true, and_true, true_and, or_false, false_or, forall_eq_or_imp, forall_eq, implies_true, Nat.zero_add, Nat.reduceAdd, and_assoc, upd_listA, upd_mapA, upd_bun, upd_fam, upd_datasA, ptb_datasA, factsP_datasA, ptb_listA, factsP_listA, factsP_mapA, ptb_mapA, Nat.mul_one, factsP_bun, ptb_bun, ptb_fam, factsP_fam, factsP_errA, ptb_errA, upd_errA, entCells] at cs
          go_upto_region 11 with fail
          go_cut [53] (fun s53 wc => s53 = .bool false ∧ Mem w [] wc [entsA A c m, .pt S.sb [.int .u64 S.id, .int .i64 S.client, .int .i64 S.m0, .int .i64 S.m1, .int .i64 S.m2, .map (some S.lb), .bool false] 77, mapA intK ptrV S.lb (ls.map lgPtr), fam logA ls])
          case first =>
            by_cases c1 : k < l1.length
            · have c1i : (k : Int) < l1.length := by omega
              have c2i : ¬ (k : Int) < 100 := by omega
              clear hlt
              have cs := O.facts
              try simp only [factsP, cellsP, roomP, foots_cons, foots_nil, foots_append, foot_pt, ptb, ptb_mapA, foot_mapA, factsP_mapA, foot_bun, List.append_nil, List.nil_append, List.cons_append, List.nodup_cons, List.nodup_nil, List.mem_cons, List.not_mem_nil, List.mem_singleton, List.forall_mem_cons, not_or, not_false_eq_true, and_true, true_and, or_false, false_or, forall_eq_or_imp, forall_eq, implies_true, Nat.zero_add, Nat.reduceAdd, and_assoc, upd_listA, upd_mapA, upd_bun, upd_fam, upd_datasA, ptb_datasA, factsP_datasA, ptb_listA, factsP_listA, factsP_mapA, ptb_mapA, Nat.mul_one, factsP_bun, ptb_bun, ptb_fam, factsP_fam, factsP_errA, ptb_errA, upd_errA, entCells] at cs
              go_wp2_with fail
              go_meet
              exact ⟨rfl, O⟩
            · have c1i : ¬ (k : Int) < l1.length := by omega
              clear hlt
              have cs := O.facts
              try simp only [factsP, cellsP, roomP, foots_cons, foots_nil, foots_append, foot_pt, ptb, ptb_mapA, foot_mapA, factsP_mapA, foot_bun, List.append_nil, List.nil_append, List.cons_append, List.nodup_cons, List.nodup_nil, List.mem_cons, List.not_mem_nil, List.mem_singleton, List.forall_mem_cons, not_or, not_false_eq_true, and_true, true_and, or_false, false_or, forall_eq_or_imp, forall_eq, implies_true, Nat.zero_add, Nat.reduceAdd, and_assoc, upd_listA, upd_mapA, upd_bun, upd_fam, upd_datasA, ptb_datasA, factsP_datasA, ptb_listA, factsP_listA, factsP_mapA, ptb_mapA, Nat.mul_one, factsP_bun, ptb_bun, ptb_fam, factsP_fam, factsP_errA, ptb_errA, upd_errA, entCells] at cs
              go_wp2_with fail
              go_meet
              exact ⟨rfl, O⟩
          case rest =>
            clear O hlt
            obtain ⟨rfl, O⟩ := hcut
            have SC := mo_scan HM.out.1
            have CS := Lib.hid (fun W hW => s_Scan W S false ls kLO kHI (show kLO.size ≤ 1048576 by decide) (show kHI.size ≤ 1048576 by decide) HM.out.1.ok.logs hW)
            simp only [SesH.val, SC.1] at CS
            generalize scanS false (ls.map LogM.p) kLO kHI = sl at CS SC
            have hsl := SC.2.2
            have HSC : Hid (sl = m ∨ ∃ n e, m.length = n + 1 ∧ m[n]? = some e ∧ ltK kHI e.1 = true) := Lib.hid (by rw [HM.out.2]; exact SC.2.1)
            unfold kLO kHI at CS
            clear SC
            have cs := O.facts
            try simp only [factsP, cellsP, roomP, foots_cons, foots_nil, foots_append, foot_pt, ptb, ptb_mapA, foot_mapA, factsP_mapA, foot_bun, List.append_nil, List.nil_append, List.cons_append, List.nodup_cons, List.nodup_nil, List.mem_cons, List.not_mem_nil, List.mem_singleton, List.forall_mem_cons, not_or, not_false_eq_true, and_true, true_and, or_false, false_or, forall_eq_or_imp, forall_eq, implies_true, Nat.zero_add, Nat.reduceAdd, and_assoc, upd_listA, upd_mapA, upd_bun, upd_fam, upd_datasA, ptb_datasA, factsP_datasA, ptb_listA, factsP_listA, factsP_mapA, ptb_mapA, Nat.mul_one, factsP_bun, ptb_bun, ptb_fam, factsP_fam, factsP_errA, ptb_errA, upd_errA, entCells] at cs
            go_wp2_with fail
            refine (CS.out _ (O.pre [false, true, true, true])).mono ?_
            rintro e w4 ⟨q, B1, d1, rfl, hq, o⟩
            obtain rfl : q = none := hq.2 rfl
            replace O := (O.callp [false, false, false, false] o).sel [true, true, true, true, true]
            clear o CS hq
            simp only [Tk.sel, put, List.cons_append, List.nil_append] at O
            simp only [errV_none]
            have CE := Lib.hid (fun W (x : At 2 entCells W B1 sl) (y : At 2 entCells W A m) => q_SameEntries W B1 A d1 c sl m x y (by omega) (by omega))
            skip
            have cs := O.facts
            try simp only [factsP, cellsP, roomP, foots_cons, foots_nil, foots_append, foot_pt, ptb, ptb_mapA, foot_mapA, factsP_mapA, foot_bun, List.append_nil, List.nil_append, List.cons_append, List.nodup_cons, List.nodup_nil, List.mem_cons, List.not_mem_nil, List.mem_singleton, List.forall_mem_cons, not_or, not_false_eq_true, and_true, true_and, or_false, false_or, forall_eq_or_imp, forall_eq, implies_true, Nat.zero_add, Nat.reduceAdd, and_assoc, upd_listA, upd_mapA, upd_bun, upd_fam, upd_datasA, ptb_datasA, factsP_datasA, ptb_listA, factsP_listA, factsP_mapA, ptb_mapA, Nat.mul_one, factsP_bun, ptb_bun, ptb_fam, factsP_fam, factsP_errA, ptb_errA, upd_errA, entCells] at cs
            go_wp2_with fail
            refine (CE.out _ (listA_atl entLen (O.hold (entsA B1 d1 sl) (by simp))) (listA_atl entLen (O.hold (entsA A c m) (by simp)))).mono ?_
            rintro e w5 ⟨rfl, o⟩
            replace O := O.callp [] o
            clear o CE
            simp only [put, List.nil_append] at O
            by_cases hsm : sl = m
            · have hd : decide (sl = m) = true := by simpa using hsm
              rw [hd]
              clear hd hsm
              have cs := O.facts
              try simp only [factsP, cellsP, roomP, foots_cons, foots_nil, foots_append, foot_pt, ptb, ptb_mapA, foot_mapA, factsP_mapA, foot_bun, List.append_nil, List.nil_append, List.cons_append, List.nodup_cons, List.nodup_nil, List.mem_cons, List.not_mem_nil, List.mem_singleton, List.forall_mem_cons, not_or, not_false_eq_true, and_true, true_and, or_false, false_or, forall_eq_or_imp, forall_eq, implies_true, Nat.zero_add, Nat.reduceAdd, and_assoc, upd_listA, upd_mapA, upd_bun, upd_fam, upd_datasA, ptb_datasA, factsP_datasA, ptb_listA, factsP_listA, factsP_mapA, ptb_mapA, Nat.mul_one, factsP_bun, ptb_bun, ptb_fam, factsP_fam, factsP_errA, ptb_errA, upd_errA, entCells] at cs
              go_wp2_with fail
              go_ret
              exact ⟨rfl, O.fr.below rfl⟩
            · have hd : decide (sl = m) = false := by simpa using hsm
              rw [hd]
              obtain ⟨n, ⟨ek, ev⟩, hn, he, hl⟩ := HSC.out.resolve_left hsm
              obtain ⟨g, rfl, _⟩ := listA_get entLen (O.hold (entsA A c m) (by simp)) he
              have HX := Lib.hid he
              have tH : kHI.toList = [11, 255] := by rw [ByteArray.toList_eq]; rfl
              have hlk : Op.bytesLess ek.toList [11, 255] = false := by have h1 := ltK_asym hl; unfold ltK at h1; rw [tH] at h1; exact h1
              have hlk2 : (ek.toList == [11, 255]) = false := by rw [beq_eq_false_iff_ne]; exact fun h => ltK_ne hl (ba_ext (tH.trans h.symm))
              clear hd hsm he hl tH
              skip
              have cs := O.facts
              try simp only [factsP, cellsP, roomP, foots_cons, foots_nil, foots_append, foot_pt, ptb, ptb_mapA, foot_mapA, factsP_mapA, foot_bun, List.append_nil, List.nil_append, List.cons_append, List.nodup_cons, List.nodup_nil, List.mem_cons, List.not_mem_nil, List.mem_singleton, List.forall_mem_cons, not_or, not_false_eq_true, and_true, true_and, or_false, false_or, forall_eq_or_imp, forall_eq, implies_true, Nat.zero_add, Nat.reduceAdd, and_assoc, upd_listA, upd_mapA, upd_bun, upd_fam, upd_datasA, ptb_datasA, factsP_datasA, ptb_listA, factsP_listA, factsP_mapA, ptb_mapA, Nat.mul_one, factsP_bun, ptb_bun, ptb_fam, factsP_fam, factsP_errA, ptb_errA, upd_errA, entCells] at cs
              try have v1 := (listA_at entLen (O.hold (entsA (some ⟨g, 0, none⟩) c m) (by simp)) HX.out)
              try simp only [cellsQ, roomP, and_assoc, and_true, true_and, Nat.add_zero, Nat.zero_add, Nat.reduceAdd, factsP, cellsP, roomP, foots_cons, foots_nil, foots_append, foot_pt, ptb, ptb_mapA, foot_mapA, factsP_mapA, foot_bun, List.append_nil, List.nil_append, List.cons_append, List.nodup_cons, List.nodup_nil, List.mem_cons, List.not_mem_nil, List.mem_singleton, List.forall_mem_cons, not_or, not_false_eq_true, and_true, true_and, or_false, false_or, forall_eq_or_imp, forall_eq, implies_true, Nat.zero_add, Nat.reduceAdd, and_assoc, upd_listA, upd_mapA, upd_bun, upd_fam, upd_datasA, ptb_datasA, factsP_datasA, ptb_listA, factsP_listA, factsP_mapA, ptb_mapA, Nat.mul_one, factsP_bun, ptb_bun, ptb_fam, factsP_fam, factsP_errA, ptb_errA, upd_errA, entCells] at v1
              go_wp2_with fail
              go_ret
              exact ⟨rfl, O.fr.below rfl⟩
end Go.Proofs.Ytomcekjhehceoaa
