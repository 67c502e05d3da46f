/- WALK: a new session. -/
import Derived.Test.YtomcekjhehceoaaSesG20
import Derived.Deep.AppendSrc
set_option linter.unusedVariables false
set_option linter.unusedSimpArgs false
namespace Go.Tk
open Go.RowKit
section
variable {α : Type} {P : Program} {st e : TypeId} {size : Nat} {cs : α → List Value} {z : α} {w0 w w' : World} {F : List Nat} {L : List Asn} {g c : Nat}
/-- an append beyond the room, of cells that lie anywhere -/
theorem ElTy.grow_app (T : ElTy P st e size cs z) (h : Mem w0 F w L) {n c m mc : Nat} (l new : List α) (hl : l.length = n) (hm : new.length = m) {a ab : Addr} (hsrc : ∀ j u, (l.flatMap cs)[j]? = some u → w.cell? (a.add j) = some u) (hnew : ∀ j u, (new.flatMap cs)[j]? = some u → w.cell? (ab.add j) = some u) (hg : c < n + m) (hb : n + m ≤ 100000000) :
    ∃ G w', (∀ ty, (Builtin.append_ #[st, st] ty #[.slice (some a) n c, .slice (some ab) m mc]).run P w = .ok (.slice (some ⟨w.heap.size, 0, none⟩) (n + m) G) w') ∧ n + m ≤ G ∧ G ≤ maxLen ∧ Mem w0 F w' (listA e size cs (some ⟨w.heap.size, 0, none⟩) G (l ++ new) :: L) := by
  obtain ⟨ti, v, hi, hz, hsz, hby, hvs, hvz⟩ := T.info
  subst hl hm
  have hln : (l.flatMap cs).length = l.length * size := flatMap_len T.len l
  have hold : (Builtin.firstCells ti.size l.length (.slice (some a) l.length c)).run P w.drew = .ok (l.flatMap cs).toArray w.drew :=
    run_firstCells_some w.drew ti.size l.length a l.length c (l.flatMap cs) (by rw [hln, hsz]) (fun j u hu => hsrc j u hu)
  have hs : _root_.Go.Src P ti.size st (.slice (some ab) new.length mc) new.length (new.flatMap cs) w :=
    _root_.Go.Src.ofSlice w T.sl ab new.length mc (new.flatMap cs) (by rw [flatMap_len T.len, hsz]) hnew (fun u hu => by
      obtain ⟨b, hb, hub⟩ := List.mem_flatMap.1 hu
      exact T.one b u hub)
  have hr := fun ty => run_append_grow_src w st st ty e ti v T.sl hi hz (some a) l.length c (l.flatMap cs) hold _ new.length (new.flatMap cs) hs hg (by omega) (growslice_fits hg (Nat.le_trans (Nat.mul_le_mul hb hby) (by omega)))
  have hGn : l.length + new.length ≤ grownCap w (l.length + new.length) c e := grownCap_ge w _ _ _
  have hGm : grownCap w (l.length + new.length) c e ≤ maxLen := grownCap_le_maxLen w _ _ _ (by unfold maxLen; omega)
  generalize grownCap w (l.length + new.length) c e = G at *
  refine ⟨G, _, hr, hGn, hGm, ?_⟩
  have hzl : (Builtin.zeroCells v.cells (G - (l.length + new.length))).size = (G - (l.length + new.length)) * size := by simp [Builtin.zeroCells, hvs]
  have h2 := h.drew.alloc ((l ++ new).flatMap cs ++ (Builtin.zeroCells v.cells (G - (l.length + new.length))).toList) e
  have e3 : ((l ++ new).flatMap cs ++ (Builtin.zeroCells v.cells (G - (l.length + new.length))).toList).toArray = (l.flatMap cs ++ new.flatMap cs).toArray ++ Builtin.zeroCells v.cells (G - (l.length + new.length)) := by
    apply Array.ext'
    simp only [Array.toList_append, List.flatMap_append]
  rw [e3] at h2
  refine Mem.listShut T.len h2 ?_ (by simpa using hGn) hGm
  rw [Array.length_toList, hzl, List.length_append, ← Nat.add_mul]
  congr 1
  omega
end
end Go.Tk
namespace Go.Proofs.Ytomcekjhehceoaa
open Go.RowKit Go.Tk
def vInt (n : Int) : Value := .int .i64 n
theorem zeroInt (w : World) : (zeroValue 3).run Try.prog w = .ok (.int .i64 0) w := by kernel_rfl
def intCells (i : Int) : List Value := [.int .i64 i]
theorem intLen (i : Int) : (intCells i).length = 1 := rfl
theorem intTy : ElTy Try.prog 73 3 1 intCells 0 := ⟨Try.underlying73, by kernel_rfl, by kernel_rfl, by omega, fun _ => rfl, fun a u h => by simp [intCells] at h; subst h; rfl⟩
theorem look_seen {W : World} {b : Nat} {m : List (Int × Int)} (h : MapAt intK vInt W b m) {k : Int} (hk : (Lit.int .i64 k).wf = true) (hn : mget m k = none) : (Instr.lookup 72 (.map (some b)) (.int .i64 k) false).run Try.prog W = .ok (.int .i64 0) W := by
  have := h.lookup Try.underlying72 zeroInt (k := k) hk false
  simp only [Bool.false_eq_true, if_false] at this
  rw [show intK.kv k = .int .i64 k from rfl, hn] at this
  exact this
theorem small_wf {n : Int} (h : 0 ≤ n ∧ n < 12) : (Lit.int .i64 n).wf = true := by
  simp [Lit.wf, IntKind.min, IntKind.max, IntKind.signed, IntKind.bits]; omega
set_option maxRecDepth 100000 in
set_option maxHeartbeats 8000000 in
theorem s_New (w : World) (id client m0 m1 m2 : Int) (hid : id ≠ 0) (hc : 0 ≤ client ∧ client < 12) (h0 : 0 ≤ m0 ∧ m0 < 12) (h1 : 0 ≤ m1 ∧ m1 < 12) (h2 : 0 ≤ m2 ∧ m2 < 12) (h01 : m0 ≠ m1) (h02 : m0 ≠ m2) (h12 : m1 ≠ m2) :
    Calls Try.prog 8 #[.int .u64 id, .int .i64 client, .agg #[.int .i64 m0, .int .i64 m1, .int .i64 m2]] w (fun e w' => ∃ S : SesH, S.id = id ∧ S.client = client ∧ S.m0 = m0 ∧ S.m1 = m1 ∧ S.m2 = m2 ∧ e = .returned (.tuple #[S.val, .nilIface]) ∧ Mem w [] w' (sesL S false [])) := by
  have O : Mem w [] w [] := Mem.begin
  have hmm := @run_makeMap Try.prog
  have W0 := Lib.hid (small_wf h0)
  have W1 := Lib.hid (small_wf h1)
  have W2 := Lib.hid (small_wf h2)
  have N01 := Lib.hid h01
  have N02 := Lib.hid h02
  have N12 := Lib.hid h12
  have HID := Lib.hid hid
  have HALL := Lib.hid (show ∀ x ∈ [m0, m1, m2, client], 0 ≤ x ∧ x < 12 by
    intro x hx
    simp only [List.mem_cons, List.not_mem_nil, or_false] at hx
    rcases hx with rfl | rfl | rfl | rfl
    · exact h0
    · exact h1
    · exact h2
    · exact hc)
  have hid2 : (id == 0) = false := by simpa using hid
  clear h0 h1 h2 hc h01 h02 h12 hid
  go_enter Try.func8, Try.ntmps8
  have cs := O.facts
  try simp only [factsP, cellsP, roomP, foots_cons, foots_nil, foots_append, foot_pt, ptb, ptb_mapA, foot_mapA, factsP_mapA, foot_bun, List.append_nil, List.nil_append, List.cons_append, List.nodup_cons, List.nodup_nil, List.mem_cons, List.not_mem_nil, List.mem_singleton, List.forall_mem_cons, not_or, not_false_eq_true, and_true, true_and, or_false, false_or, forall_eq_or_imp, forall_eq, implies_true, Nat.zero_add, Nat.reduceAdd, and_assoc, upd_listA, upd_mapA, upd_bun, upd_fam, ptb_listA, factsP_listA, factsP_mapA, ptb_mapA, Nat.mul_one, factsP_bun, ptb_bun, ptb_fam, factsP_fam, factsP_errA, ptb_errA, upd_errA, intCells] at cs
  go_upto_region 2 with fail
  have O1 := (O.alloc [.int .i64 m0, .int .i64 m1, .int .i64 m2] 29).newMap (κ := intK) (vv := vInt)
  rw [World.size_alloc] at O1
  refine Mem.atCode O1 ?_
  clear O O1
  intro w1 O
  generalize w.heap.size = mb at O ⊢
  generalize mb + 1 = sb at O ⊢
  have OA := O.alloc [.int .i64 client] 3
  obtain ⟨G, w2, hgr, hG1, hG2, O2⟩ := intTy.grow_app OA (n := 3) (c := 3) (m := 1) (mc := 1) [m0, m1, m2] [client] rfl rfl (a := ⟨mb, 0, none⟩) (ab := ⟨w1.heap.size, 0, none⟩)
    (fun j u hu => by rw [add_none', Nat.zero_add]; exact OA.ptCell (b := mb) (cs := [.int .i64 m0, .int .i64 m1, .int .i64 m2]) (t := 29) (by simp) (by simpa [intCells] using hu))
    (fun j u hu => by rw [add_none', Nat.zero_add]; exact OA.ptCell (b := w1.heap.size) (cs := [.int .i64 client]) (t := 3) (by simp) (by simpa [intCells] using hu)) (by omega) (by omega)
  have cs := O.facts
  simp only [factsP, cellsP, roomP, foots_cons, foots_nil, foots_append, foot_pt, ptb, ptb_mapA, foot_mapA, factsP_mapA, foot_bun, List.append_nil, List.nil_append, List.cons_append, List.nodup_cons, List.nodup_nil, List.mem_cons, List.not_mem_nil, List.mem_singleton, List.forall_mem_cons, not_or, not_false_eq_true, and_true, true_and, or_false, false_or, forall_eq_or_imp, forall_eq, implies_true, Nat.zero_add, Nat.reduceAdd, and_assoc, upd_listA, upd_mapA, upd_bun, upd_fam, ptb_listA, factsP_listA, factsP_mapA, ptb_mapA, Nat.mul_one, factsP_bun, ptb_bun, ptb_fam, factsP_fam, factsP_errA, ptb_errA, upd_errA, intCells] at cs
  go_wp2_with (at_builtin; refine wl_appz rfl rfl rfl rfl (hgr _) ?_)
  clear O OA hgr cs
  have O := O2.sel [true, false, true, true]
  clear O2
  simp only [Tk.sel, List.cons_append, List.nil_append] at O
  rw [World.size_alloc] at O
  generalize w1.heap.size + 1 = N at O ⊢
  go_loopw [19] (fun s19 wr => ∃ (k : Nat), k ≤ 4 ∧ s19 = .int .i64 k ∧ Mem w [] wr [listA 3 1 intCells (some ⟨N, 0, none⟩) G [m0, m1, m2, client], mapA intK vInt sb [], .pt mb [.int .i64 m0, .int .i64 m1, .int .i64 m2] 29]) (fun s19 _ => 4 - (intOf s19).toNat)
  case atStart => exact ⟨0, by omega, rfl, O⟩
  case round =>
    clear O
    obtain ⟨k, hk, rfl, O⟩ := hrel
    by_cases hlt : k < 4
    · have hlti : (k : Int) < 4 := by omega
      obtain ⟨x, hx⟩ : ∃ x, [m0, m1, m2, client][k]? = some x := ⟨_, List.getElem?_eq_getElem (by simpa using hlt)⟩
      obtain ⟨hx0, hx1⟩ := HALL.out x (List.mem_of_getElem? hx)
      have hxa : decide (x < 0) = false := by simp; omega
      have hxb : decide (12 ≤ x) = false := by simp; omega
      have HX := Lib.hid hx
      clear hx hx0 hx1
      skip
      have cs := O.facts
      try simp only [factsP, cellsP, roomP, foots_cons, foots_nil, foots_append, foot_pt, ptb, ptb_mapA, foot_mapA, factsP_mapA, foot_bun, List.append_nil, List.nil_append, List.cons_append, List.nodup_cons, List.nodup_nil, List.mem_cons, List.not_mem_nil, List.mem_singleton, List.forall_mem_cons, not_or, not_false_eq_true, and_true, true_and, or_false, false_or, forall_eq_or_imp, forall_eq, implies_true, Nat.zero_add, Nat.reduceAdd, and_assoc, upd_listA, upd_mapA, upd_bun, upd_fam, ptb_listA, factsP_listA, factsP_mapA, ptb_mapA, Nat.mul_one, factsP_bun, ptb_bun, ptb_fam, factsP_fam, factsP_errA, ptb_errA, upd_errA, intCells] at cs
      try have v1 := (listA_at intLen (O.hold (listA 3 1 intCells (some ⟨N, 0, none⟩) G [m0, m1, m2, client]) (List.mem_cons_self ..)) HX.out)
      try simp only [cellsQ, roomP, and_assoc, and_true, true_and, Nat.add_zero, Nat.zero_add, Nat.reduceAdd, factsP, cellsP, roomP, foots_cons, foots_nil, foots_append, foot_pt, ptb, ptb_mapA, foot_mapA, factsP_mapA, foot_bun, List.append_nil, List.nil_append, List.cons_append, List.nodup_cons, List.nodup_nil, List.mem_cons, List.not_mem_nil, List.mem_singleton, List.forall_mem_cons, not_or, not_false_eq_true, and_true, true_and, or_false, false_or, forall_eq_or_imp, forall_eq, implies_true, Nat.zero_add, Nat.reduceAdd, and_assoc, upd_listA, upd_mapA, upd_bun, upd_fam, ptb_listA, factsP_listA, factsP_mapA, ptb_mapA, Nat.mul_one, factsP_bun, ptb_bun, ptb_fam, factsP_fam, factsP_errA, ptb_errA, upd_errA, intCells] at v1
      go_wp2_with fail
      go_roundw
      case rel => exact ⟨k + 1, by omega, by go_num, O⟩
      case measure => simp [intOf]; omega
    · obtain rfl : k = 4 := by omega
      rw [show ((4 : Nat) : Int) = (4 : Int) from rfl]
      skip
      have cs := O.facts
      try simp only [factsP, cellsP, roomP, foots_cons, foots_nil, foots_append, foot_pt, ptb, ptb_mapA, foot_mapA, factsP_mapA, foot_bun, List.append_nil, List.nil_append, List.cons_append, List.nodup_cons, List.nodup_nil, List.mem_cons, List.not_mem_nil, List.mem_singleton, List.forall_mem_cons, not_or, not_false_eq_true, and_true, true_and, or_false, false_or, forall_eq_or_imp, forall_eq, implies_true, Nat.zero_add, Nat.reduceAdd, and_assoc, upd_listA, upd_mapA, upd_bun, upd_fam, ptb_listA, factsP_listA, factsP_mapA, ptb_mapA, Nat.mul_one, factsP_bun, ptb_bun, ptb_fam, factsP_fam, factsP_errA, ptb_errA, upd_errA, intCells] at cs
      go_wp2_with fail
      replace O := O.sel [false, true, true]
      simp only [Tk.sel] at O
      go_loopw [32] (fun s32 wr => ∃ (k : Nat), k ≤ 3 ∧ s32 = .int .i64 k ∧ Mem w [] wr [mapA intK vInt sb ([(m0, 1), (m1, 1), (m2, 1)].take k), .pt mb [.int .i64 m0, .int .i64 m1, .int .i64 m2] 29]) (fun s32 _ => 3 - (intOf s32).toNat)
      case atStart => exact ⟨0, by omega, rfl, O⟩
      case round =>
        clear O
        obtain ⟨k, hk, rfl, O⟩ := hrel
        by_cases hlt : k < 3
        · have hcase : k = 0 ∨ k = 1 ∨ k = 2 := by omega
          rcases hcase with rfl | rfl | rfl
          · have hmn : mget ([] : List (Int × Int)) m0 = none := by simp [mget]
            have hidx : ∀ W, (Instr.index 29 (.agg #[.int .i64 m0, .int .i64 m1, .int .i64 m2]) (.int .i64 0)).run Try.prog W = .ok (.int .i64 m0) W := fun W => by kernel_rfl
            have hms : mset ([] : List (Int × Int)) m0 1 = [(m0, 1)] := mset_new hmn
            replace O : Mem w [] wr [mapA intK vInt sb [], .pt mb [.int .i64 m0, .int .i64 m1, .int .i64 m2] 29] := O
            have HMN := Lib.hid hmn
            have HMS := Lib.hid hms
            clear hmn hms
            skip
            have cs := O.facts
            try simp only [factsP, cellsP, roomP, foots_cons, foots_nil, foots_append, foot_pt, ptb, ptb_mapA, foot_mapA, factsP_mapA, foot_bun, List.append_nil, List.nil_append, List.cons_append, List.nodup_cons, List.nodup_nil, List.mem_cons, List.not_mem_nil, List.mem_singleton, List.forall_mem_cons, not_or, not_false_eq_true, and_true, true_and, or_false, false_or, forall_eq_or_imp, forall_eq, implies_true, Nat.zero_add, Nat.reduceAdd, and_assoc, upd_listA, upd_mapA, upd_bun, upd_fam, ptb_listA, factsP_listA, factsP_mapA, ptb_mapA, Nat.mul_one, factsP_bun, ptb_bun, ptb_fam, factsP_fam, factsP_errA, ptb_errA, upd_errA, intCells] at cs
            have v1 := (look_seen (O.map (κ := intK) (vv := vInt) (List.mem_cons_self ..)) W0.out HMN.out)
            try simp only [cellsQ, roomP, and_assoc, and_true, true_and, Nat.add_zero, Nat.zero_add, Nat.reduceAdd, factsP, cellsP, roomP, foots_cons, foots_nil, foots_append, foot_pt, ptb, ptb_mapA, foot_mapA, factsP_mapA, foot_bun, List.append_nil, List.nil_append, List.cons_append, List.nodup_cons, List.nodup_nil, List.mem_cons, List.not_mem_nil, List.mem_singleton, List.forall_mem_cons, not_or, not_false_eq_true, and_true, true_and, or_false, false_or, forall_eq_or_imp, forall_eq, implies_true, Nat.zero_add, Nat.reduceAdd, and_assoc, upd_listA, upd_mapA, upd_bun, upd_fam, ptb_listA, factsP_listA, factsP_mapA, ptb_mapA, Nat.mul_one, factsP_bun, ptb_bun, ptb_fam, factsP_fam, factsP_errA, ptb_errA, upd_errA, intCells] at v1
            go_wp2_with ((at_mapUpdate; refine wpList_mapUpdate_mem (O.front1 [true] rfl) rfl _ _ _ _ rfl Try.underlying72 rfl m0 W0.out 1 rfl rfl ?_; intro w6 O6))
            have O7 := O6.unfront
            simp only [put, List.cons_append, List.nil_append] at O7
            rw [HMS.out] at O7
            go_roundw
            case rel => exact ⟨1, by omega, rfl, O7⟩
            case measure => simp [intOf]
          · have hmn : mget ([(m0, 1)] : List (Int × Int)) m1 = none := by simp [mget_cons, mget, N01.out]
            have hidx : ∀ W, (Instr.index 29 (.agg #[.int .i64 m0, .int .i64 m1, .int .i64 m2]) (.int .i64 1)).run Try.prog W = .ok (.int .i64 m1) W := fun W => by kernel_rfl
            have hms : mset ([(m0, 1)] : List (Int × Int)) m1 1 = [(m0, 1), (m1, 1)] := mset_new hmn
            replace O : Mem w [] wr [mapA intK vInt sb [(m0, 1)], .pt mb [.int .i64 m0, .int .i64 m1, .int .i64 m2] 29] := O
            have HMN := Lib.hid hmn
            have HMS := Lib.hid hms
            clear hmn hms
            skip
            have cs := O.facts
            try simp only [factsP, cellsP, roomP, foots_cons, foots_nil, foots_append, foot_pt, ptb, ptb_mapA, foot_mapA, factsP_mapA, foot_bun, List.append_nil, List.nil_append, List.cons_append, List.nodup_cons, List.nodup_nil, List.mem_cons, List.not_mem_nil, List.mem_singleton, List.forall_mem_cons, not_or, not_false_eq_true, and_true, true_and, or_false, false_or, forall_eq_or_imp, forall_eq, implies_true, Nat.zero_add, Nat.reduceAdd, and_assoc, upd_listA, upd_mapA, upd_bun, upd_fam, ptb_listA, factsP_listA, factsP_mapA, ptb_mapA, Nat.mul_one, factsP_bun, ptb_bun, ptb_fam, factsP_fam, factsP_errA, ptb_errA, upd_errA, intCells] at cs
            have v1 := (look_seen (O.map (κ := intK) (vv := vInt) (List.mem_cons_self ..)) W1.out HMN.out)
            try simp only [cellsQ, roomP, and_assoc, and_true, true_and, Nat.add_zero, Nat.zero_add, Nat.reduceAdd, factsP, cellsP, roomP, foots_cons, foots_nil, foots_append, foot_pt, ptb, ptb_mapA, foot_mapA, factsP_mapA, foot_bun, List.append_nil, List.nil_append, List.cons_append, List.nodup_cons, List.nodup_nil, List.mem_cons, List.not_mem_nil, List.mem_singleton, List.forall_mem_cons, not_or, not_false_eq_true, and_true, true_and, or_false, false_or, forall_eq_or_imp, forall_eq, implies_true, Nat.zero_add, Nat.reduceAdd, and_assoc, upd_listA, upd_mapA, upd_bun, upd_fam, ptb_listA, factsP_listA, factsP_mapA, ptb_mapA, Nat.mul_one, factsP_bun, ptb_bun, ptb_fam, factsP_fam, factsP_errA, ptb_errA, upd_errA, intCells] at v1
            go_wp2_with ((at_mapUpdate; refine wpList_mapUpdate_mem (O.front1 [true] rfl) rfl _ _ _ _ rfl Try.underlying72 rfl m1 W1.out 1 rfl rfl ?_; intro w6 O6))
            have O7 := O6.unfront
            simp only [put, List.cons_append, List.nil_append] at O7
            rw [HMS.out] at O7
            go_roundw
            case rel => exact ⟨2, by omega, rfl, O7⟩
            case measure => simp [intOf]
          · have hmn : mget ([(m0, 1), (m1, 1)] : List (Int × Int)) m2 = none := by simp [mget_cons, mget, N02.out, N12.out]
            have hidx : ∀ W, (Instr.index 29 (.agg #[.int .i64 m0, .int .i64 m1, .int .i64 m2]) (.int .i64 2)).run Try.prog W = .ok (.int .i64 m2) W := fun W => by kernel_rfl
            have hms : mset ([(m0, 1), (m1, 1)] : List (Int × Int)) m2 1 = [(m0, 1), (m1, 1), (m2, 1)] := mset_new hmn
            replace O : Mem w [] wr [mapA intK vInt sb [(m0, 1), (m1, 1)], .pt mb [.int .i64 m0, .int .i64 m1, .int .i64 m2] 29] := O
            have HMN := Lib.hid hmn
            have HMS := Lib.hid hms
            clear hmn hms
            skip
            have cs := O.facts
            try simp only [factsP, cellsP, roomP, foots_cons, foots_nil, foots_append, foot_pt, ptb, ptb_mapA, foot_mapA, factsP_mapA, foot_bun, List.append_nil, List.nil_append, List.cons_append, List.nodup_cons, List.nodup_nil, List.mem_cons, List.not_mem_nil, List.mem_singleton, List.forall_mem_cons, not_or, not_false_eq_true, and_true, true_and, or_false, false_or, forall_eq_or_imp, forall_eq, implies_true, Nat.zero_add, Nat.reduceAdd, and_assoc, upd_listA, upd_mapA, upd_bun, upd_fam, ptb_listA, factsP_listA, factsP_mapA, ptb_mapA, Nat.mul_one, factsP_bun, ptb_bun, ptb_fam, factsP_fam, factsP_errA, ptb_errA, upd_errA, intCells] at cs
            have v1 := (look_seen (O.map (κ := intK) (vv := vInt) (List.mem_cons_self ..)) W2.out HMN.out)
            try simp only [cellsQ, roomP, and_assoc, and_true, true_and, Nat.add_zero, Nat.zero_add, Nat.reduceAdd, factsP, cellsP, roomP, foots_cons, foots_nil, foots_append, foot_pt, ptb, ptb_mapA, foot_mapA, factsP_mapA, foot_bun, List.append_nil, List.nil_append, List.cons_append, List.nodup_cons, List.nodup_nil, List.mem_cons, List.not_mem_nil, List.mem_singleton, List.forall_mem_cons, not_or, not_false_eq_true, and_true, true_and, or_false, false_or, forall_eq_or_imp, forall_eq, implies_true, Nat.zero_add, Nat.reduceAdd, and_assoc, upd_listA, upd_mapA, upd_bun, upd_fam, ptb_listA, factsP_listA, factsP_mapA, ptb_mapA, Nat.mul_one, factsP_bun, ptb_bun, ptb_fam, factsP_fam, factsP_errA, ptb_errA, upd_errA, intCells] at v1
            go_wp2_with ((at_mapUpdate; refine wpList_mapUpdate_mem (O.front1 [true] rfl) rfl _ _ _ _ rfl Try.underlying72 rfl m2 W2.out 1 rfl rfl ?_; intro w6 O6))
            have O7 := O6.unfront
            simp only [put, List.cons_append, List.nil_append] at O7
            rw [HMS.out] at O7
            go_roundw
            case rel => exact ⟨3, by omega, rfl, O7⟩
            case measure => simp [intOf]
        · obtain rfl : k = 3 := by omega
          replace O : Mem w [] wr [mapA intK vInt sb [(m0, 1), (m1, 1), (m2, 1)], .pt mb [.int .i64 m0, .int .i64 m1, .int .i64 m2] 29] := O
          skip
          have cs := O.facts
          try simp only [factsP, cellsP, roomP, foots_cons, foots_nil, foots_append, foot_pt, ptb, ptb_mapA, foot_mapA, factsP_mapA, foot_bun, List.append_nil, List.nil_append, List.cons_append, List.nodup_cons, List.nodup_nil, List.mem_cons, List.not_mem_nil, List.mem_singleton, List.forall_mem_cons, not_or, not_false_eq_true, and_true, true_and, or_false, false_or, forall_eq_or_imp, forall_eq, implies_true, Nat.zero_add, Nat.reduceAdd, and_assoc, upd_listA, upd_mapA, upd_bun, upd_fam, ptb_listA, factsP_listA, factsP_mapA, ptb_mapA, Nat.mul_one, factsP_bun, ptb_bun, ptb_fam, factsP_fam, factsP_errA, ptb_errA, upd_errA, intCells] at cs
          have v1 := ((O.map (κ := intK) (vv := vInt) (b := sb) (m := [(m0, 1), (m1, 1), (m2, 1)]) (List.mem_cons_self ..)).len Try.underlying72 3)
          try simp only [cellsQ, roomP, and_assoc, and_true, true_and, Nat.add_zero, Nat.zero_add, Nat.reduceAdd, factsP, cellsP, roomP, foots_cons, foots_nil, foots_append, foot_pt, ptb, ptb_mapA, foot_mapA, factsP_mapA, foot_bun, List.append_nil, List.nil_append, List.cons_append, List.nodup_cons, List.nodup_nil, List.mem_cons, List.not_mem_nil, List.mem_singleton, List.forall_mem_cons, not_or, not_false_eq_true, and_true, true_and, or_false, false_or, forall_eq_or_imp, forall_eq, implies_true, Nat.zero_add, Nat.reduceAdd, and_assoc, upd_listA, upd_mapA, upd_bun, upd_fam, ptb_listA, factsP_listA, factsP_mapA, ptb_mapA, Nat.mul_one, factsP_bun, ptb_bun, ptb_fam, factsP_fam, factsP_errA, ptb_errA, upd_errA, intCells] at v1
          go_wp2_with fail
          go_ret2
          have O1 := (O.newMap (κ := intK) (vv := ptrV)).alloc [.int .u64 id, .int .i64 client, .int .i64 m0, .int .i64 m1, .int .i64 m2, .map (some wr.heap.size), .bool false] 77
          rw [World.size_alloc] at O1
          have O2 := (O1.famNil (f := logA)).sel [true, true, true]
          simp only [Tk.sel] at O2
          refine ⟨⟨wr.heap.size + 1, wr.heap.size, id, client, m0, m1, m2⟩, rfl, rfl, rfl, rfl, rfl, rfl, ?_⟩
          have O := O2
          replace O := (((O).front [true]).front [false, false, true]).front [false, false, true]
          simp only [Tk.sel, rst, List.cons_append, List.nil_append] at O
          replace O := O.sel [true, true, true]
          simp only [Tk.sel] at O
          exact O
end Go.Proofs.Ytomcekjhehceoaa
