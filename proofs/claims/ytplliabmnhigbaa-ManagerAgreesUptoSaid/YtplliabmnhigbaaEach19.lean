/- WALK: a manager's 'each': a function is called for each vote that counts, one behind the other. -/
import Derived.Test.YtplliabmnhigbaaCopy19
set_option linter.unusedVariables false
set_option linter.unusedSimpArgs false
namespace Go.Proofs.Ytplliabmnhigbaa
open Go.RowKit Go.Tk
/-- the votes that count: the item's place, the replica, its instance -/
structure Visit where
  k : Nat
  r : Nat
  i : Inst
def visitsAt (id : Int) (k : Nat) (x : ItS) (n : Nat) : List Visit := ((List.range n).filter (fun r => decide (x.inc r ≠ 0))).map (fun r => ⟨k, r, ⟨id, x.bucket, r, 0⟩⟩)
def visitsTo (id : Int) (s : List ItS) (n : Nat) : List Visit := ((List.range n).filterMap (fun k => (s[k]?).map (fun x => visitsAt id k x 4))).flatten
def visits (id : Int) (s : List ItS) : List Visit := visitsTo id s s.length
theorem visitsAt_succ (id : Int) (k : Nat) (x : ItS) (n : Nat) : visitsAt id k x (n + 1) = visitsAt id k x n ++ (if x.inc n = 0 then [] else [⟨k, n, ⟨id, x.bucket, n, 0⟩⟩]) := by
  simp only [visitsAt, List.range_succ, List.filter_append, List.map_append]
  congr 1
  by_cases h : x.inc n = 0 <;> simp [h]
theorem visitsTo_succ (id : Int) (s : List ItS) {k : Nat} {x : ItS} (h : s[k]? = some x) : visitsTo id s (k + 1) = visitsTo id s k ++ visitsAt id k x 4 := by
  simp only [visitsTo, List.range_succ, List.filterMap_append, List.flatten_append]
  congr 1
  simp [h]
theorem visits_split (id : Int) (s : List ItS) {k r : Nat} {x : ItS} (h : s[k]? = some x) (hr : r < 4) (hn : x.inc r ≠ 0) : ∃ rest, visits id s = (visitsTo id s k ++ visitsAt id k x r) ++ ⟨k, r, ⟨id, x.bucket, r, 0⟩⟩ :: rest := by
  have hk := (List.getElem?_eq_some_iff.1 h).1
  have h1 : ∀ n, k + 1 + n ≤ s.length → ∃ rest, visitsTo id s (k + 1 + n) = visitsTo id s (k + 1) ++ rest := by
    intro n
    induction n with
    | zero => intro _; exact ⟨[], by simp⟩
    | succ n ih =>
      intro hn
      obtain ⟨rest, hr⟩ := ih (by omega)
      rw [← Nat.add_assoc, visitsTo_succ id s (x := s[k + 1 + n]) (List.getElem?_eq_getElem (by omega)), hr]
      exact ⟨_, by rw [List.append_assoc]⟩
  have h2 : ∀ n, r + 1 + n ≤ 4 → ∃ rest, visitsAt id k x (r + 1 + n) = visitsAt id k x (r + 1) ++ rest := by
    intro n
    induction n with
    | zero => intro _; exact ⟨[], by simp⟩
    | succ n ih =>
      intro hn
      obtain ⟨rest, hr⟩ := ih (by omega)
      rw [← Nat.add_assoc, visitsAt_succ, hr]
      exact ⟨_, by rw [List.append_assoc]⟩
  obtain ⟨r1, e1⟩ := h1 (s.length - (k + 1)) (by omega)
  obtain ⟨r2, e2⟩ := h2 (4 - (r + 1)) (by omega)
  rw [show k + 1 + (s.length - (k + 1)) = s.length by omega] at e1
  rw [show r + 1 + (4 - (r + 1)) = 4 by omega] at e2
  refine ⟨r2 ++ r1, ?_⟩
  unfold visits
  rw [e1, visitsTo_succ id s h, e2, visitsAt_succ, if_neg hn]
  simp
theorem index_u32 (f : Nat → Int) {k : Nat} (hk : k < 4) (w : World) : (Instr.index 43 (.agg #[.int .u32 (f 0), .int .u32 (f 1), .int .u32 (f 2), .int .u32 (f 3)]) (.int .i64 (k : Nat))).run Try.prog w = .ok (.int .u32 (f k)) w := by
  have i0 : ∀ (a b c d : Int) w, (Instr.index 43 (.agg #[.int .u32 a, .int .u32 b, .int .u32 c, .int .u32 d]) (.int .i64 0)).run Try.prog w = .ok (.int .u32 a) w := fun _ _ _ _ _ => by kernel_rfl
  have i1 : ∀ (a b c d : Int) w, (Instr.index 43 (.agg #[.int .u32 a, .int .u32 b, .int .u32 c, .int .u32 d]) (.int .i64 1)).run Try.prog w = .ok (.int .u32 b) w := fun _ _ _ _ _ => by kernel_rfl
  have i2 : ∀ (a b c d : Int) w, (Instr.index 43 (.agg #[.int .u32 a, .int .u32 b, .int .u32 c, .int .u32 d]) (.int .i64 2)).run Try.prog w = .ok (.int .u32 c) w := fun _ _ _ _ _ => by kernel_rfl
  have i3 : ∀ (a b c d : Int) w, (Instr.index 43 (.agg #[.int .u32 a, .int .u32 b, .int .u32 c, .int .u32 d]) (.int .i64 3)).run Try.prog w = .ok (.int .u32 d) w := fun _ _ _ _ _ => by kernel_rfl
  have hcase : k = 0 ∨ k = 1 ∨ k = 2 ∨ k = 3 := by omega
  rcases hcase with rfl | rfl | rfl | rfl
  · exact i0 _ _ _ _ _
  · exact i1 _ _ _ _ _
  · exact i2 _ _ _ _ _
  · exact i3 _ _ _ _ _
theorem mapA_lt {w : World} {A : Asn} (h : True) : True := trivial
theorem sel_all : ∀ L : List Asn, Tk.sel (List.replicate L.length true) L = L
  | [] => rfl
  | a :: L => by simp [Tk.sel, List.replicate_succ, sel_all L]
theorem rst_all : ∀ L : List Asn, rst (List.replicate L.length true) L = []
  | [] => rfl
  | a :: L => by simp [rst, List.replicate_succ, rst_all L]
/-- a callee is handed all parts but the first -/
theorem _root_.Go.Tk.Mem.tail1 {w0 w : World} {F : List Nat} {x : Asn} {L : List Asn} (h : Mem w0 F w (x :: L)) : Pre w L := by
  have := h.pre (false :: List.replicate L.length true)
  rwa [Tk.sel, sel_all] at this
theorem _root_.Go.Tk.Mem.callTail1 {w0 w w' : World} {F : List Nat} {x : Asn} {L L' : List Asn} (h : Mem w0 F w (x :: L)) (hc : Mem w (foots L) w' L') : Mem w0 F w' (x :: L') := by
  have e : Tk.sel (false :: List.replicate L.length true) (x :: L) = L := by rw [Tk.sel, sel_all]
  have := h.call (false :: List.replicate L.length true) (by rw [e]; exact hc)
  rw [rst, rst_all] at this
  exact this.perm (List.perm_append_comm (l₁ := L') (l₂ := [x]))
theorem _root_.Go.Tk.Mem.drop1 {w0 w : World} {F : List Nat} {x : Asn} {L : List Asn} (h : Mem w0 F w (x :: L)) : Mem w0 F w L := h.sub (List.sublist_cons_self x L)
theorem _root_.Go.Tk.Mem.callAll {w0 w w' : World} {F : List Nat} {L L' : List Asn} (h : Mem w0 F w L) (hc : Mem w (foots L) w' L') : Mem w0 F w' L' := by
  have := h.call (List.replicate L.length true) (by rw [sel_all]; exact hc)
  rwa [rst_all, List.append_nil] at this
theorem _root_.Go.Tk.Mem.preAll {w0 w : World} {F : List Nat} {L : List Asn} (h : Mem w0 F w L) : Pre w L := by
  have := h.pre (List.replicate L.length true)
  rwa [sel_all] at this
/-- what a function that is called for each vote may read -/
def EachRead (eb : Nat) (id : Int) (A : Option Addr) (c : Nat) (s : List ItS) (Q : List Visit → List Asn → Prop) : Prop :=
  ∀ done L, Q done L → ∀ W, Pre W L → roomP eb W.heap.size ∧ W.cell? ⟨eb, 0, none⟩ = some (.int .u64 id) ∧ W.cell? ⟨eb, 5, none⟩ = some (.slice A s.length c) ∧ At 8 itCells W A s
set_option maxRecDepth 100000 in
set_option maxHeartbeats 8000000 in
theorem m_each (w : World) (eb : Nat) (id : Int) (A : Option Addr) (c : Nat) (s : List ItS) (hl : s.length ≤ 1048576) (Q : List Visit → List Asn → Prop) (E : EachRead eb id A c s Q) (fn : FuncId) (hen : ∀ (args : Array Value) (w : World), (callFunc fn args).run Try.prog w = .ok (.enter fn args) w) (cap : Array Value) (L0 : List Asn) (h0 : Q [] L0) (hp : Pre w L0)
    (hstep : ∀ done v rest, visits id s = done ++ v :: rest → ∀ L W, Q done L → Pre W L → Calls Try.prog fn (#[.int .i64 v.k, .int .i64 v.r, v.i.val] ++ cap) W (fun e W' => e = .returned (.tuple #[]) ∧ ∃ L', Q (done ++ [v]) L' ∧ Mem W (foots L) W' L')) :
    Calls Try.prog 35 #[.pointer (some ⟨eb, 0, none⟩), .func (.func fn) #[] cap] w (fun e w' => e = .returned (.tuple #[]) ∧ ∃ L', Q (visits id s) L' ∧ Mem w (foots L0) w' L') := by
  have O : Mem w (foots L0) w L0 := hp
  clear hp
  generalize foots L0 = fp at O ⊢
  have HE := Lib.hid E
  have HS := Lib.hid hstep
  clear E hstep
  skip
  go_enter Try.func35, Try.ntmps35
  have cs := O.facts
  try simp only [factsP, cellsP, roomP, foots_cons, foots_nil, foots_append, foot_pt, ptb, ptb_mapA, foot_mapA, factsP_mapA, foot_bun, List.append_nil, List.nil_append, List.cons_append, List.nodup_cons, List.nodup_nil, List.mem_cons, List.not_mem_nil, List.mem_singleton, List.forall_mem_cons, not_or, not_false_eq_true, and_true, true_and, or_false, false_or, forall_eq_or_imp, forall_eq, implies_true, Nat.zero_add, Nat.reduceAdd, and_assoc, upd_listA, upd_datasA, upd_txA, upd_mapA, upd_bun, ptb_listA, factsP_listA, Nat.mul_one, ptb_datasA, factsP_datasA, ptb_txA, factsP_txA, itCells] at cs
  have v1 := (HE.out _ _ h0 _ O.preAll)
  try simp only [cellsQ, roomP, and_assoc, and_true, true_and, Nat.add_zero, Nat.zero_add, Nat.reduceAdd, factsP, cellsP, roomP, foots_cons, foots_nil, foots_append, foot_pt, ptb, ptb_mapA, foot_mapA, factsP_mapA, foot_bun, List.append_nil, List.nil_append, List.cons_append, List.nodup_cons, List.nodup_nil, List.mem_cons, List.not_mem_nil, List.mem_singleton, List.forall_mem_cons, not_or, not_false_eq_true, and_true, true_and, or_false, false_or, forall_eq_or_imp, forall_eq, implies_true, Nat.zero_add, Nat.reduceAdd, and_assoc, upd_listA, upd_datasA, upd_txA, upd_mapA, upd_bun, ptb_listA, factsP_listA, Nat.mul_one, ptb_datasA, factsP_datasA, ptb_txA, factsP_txA, itCells] at v1
  go_wp2_with fail
  clear cs v1
  go_loopw [14] (fun s14 wr => ∃ (k : Nat) (L : List Asn), k ≤ s.length ∧ s14 = .int .i64 k ∧ Mem w fp wr L ∧ Hid (Q (visitsTo id s k) L)) (fun s14 _ => s.length - (intOf s14).toNat)
  case atStart => exact ⟨0, L0, by omega, rfl, O, Lib.hid (by simpa [visitsTo] using h0)⟩
  case round =>
    clear O h0
    obtain ⟨k, L, hk, rfl, O, HQ⟩ := hrel
    by_cases hlt : k < s.length
    · have hlti : (k : Int) < s.length := by omega
      obtain ⟨x, hx⟩ : ∃ x, s[k]? = some x := ⟨_, List.getElem?_eq_getElem hlt⟩
      obtain ⟨_, _, _, hat⟩ := HE.out _ _ HQ.out _ O.preAll
      obtain ⟨b, off, rfl, hb, hq⟩ := hat k x hx
      have HX := Lib.hid hx
      have HSP := Lib.hid (fun r (hr : r < 4) (hn : x.inc r ≠ 0) => visits_split id s hx hr hn)
      have HV := Lib.hid (visitsTo_succ id s hx)
      have HVA := Lib.hid (fun n => visitsAt_succ id k x n)
      have hidx := fun r (hr : r < 4) => index_u32 x.inc hr
      have Vw := arg_view hb hq Fr.refl
      clear hx hat hq
      have HVV := Lib.hid HV.out
      generalize hva : visitsAt id k x = va at *
      have hva0 : va 0 = [] := by rw [← hva]; rfl
      clear hva
      obtain ⟨xb, xv, xw, xB, xd, xe, xi⟩ := x
      simp only [itCells, cellsQ, Nat.add_zero, Nat.reduceAdd, Nat.zero_add, roomP, and_true] at Vw hidx HSP HVA
      skip
      go_upto_region 3 with fail
      have O2 := O.alloc [.int .i64 xb, .int .u32 xv, .bool xw, .slice xB xe.length xd, .int .u32 (xi 0), .int .u32 (xi 1), .int .u32 (xi 2), .int .u32 (xi 3)] 45
      refine Mem.atCode O2 ?_
      clear O O2 Vw
      intro w2 O
      generalize wr.heap.size = bx at O ⊢
      have cs := O.facts
      try simp only [factsP, cellsP, roomP, foots_cons, foots_nil, foots_append, foot_pt, ptb, ptb_mapA, foot_mapA, factsP_mapA, foot_bun, List.append_nil, List.nil_append, List.cons_append, List.nodup_cons, List.nodup_nil, List.mem_cons, List.not_mem_nil, List.mem_singleton, List.forall_mem_cons, not_or, not_false_eq_true, and_true, true_and, or_false, false_or, forall_eq_or_imp, forall_eq, implies_true, Nat.zero_add, Nat.reduceAdd, and_assoc, upd_listA, upd_datasA, upd_txA, upd_mapA, upd_bun, ptb_listA, factsP_listA, Nat.mul_one, ptb_datasA, factsP_datasA, ptb_txA, factsP_txA, itCells] at cs
      go_wp2_with fail
      clear cs
      go_loopw [21] (fun s21 wr => ∃ (r : Nat) (L : List Asn), r ≤ 4 ∧ s21 = .int .i64 r ∧ Mem w fp wr (.pt bx [.int .i64 xb, .int .u32 xv, .bool xw, .slice xB xe.length xd, .int .u32 (xi 0), .int .u32 (xi 1), .int .u32 (xi 2), .int .u32 (xi 3)] 45 :: L) ∧ Hid (Q (visitsTo id s k ++ va r) L)) (fun s21 _ => 4 - (intOf s21).toNat)
      case atStart => exact ⟨0, L, by omega, rfl, O, Lib.hid (by rw [hva0, List.append_nil]; exact HQ.out)⟩
      case round =>
        clear O HQ
        obtain ⟨r, L, hr, rfl, O, HQ⟩ := hrel
        by_cases hr4 : r < 4
        · have hr4i : (r : Int) < 4 := by omega
          have hi := hidx r hr4
          clear hidx
          by_cases hz : xi r = 0
          · have hva := HVA.out r
            rw [if_pos hz, List.append_nil] at hva
            have HVR := Lib.hid hva
            rw [hz] at hi
            clear hva
            skip
            have cs := O.facts
            try simp only [factsP, cellsP, roomP, foots_cons, foots_nil, foots_append, foot_pt, ptb, ptb_mapA, foot_mapA, factsP_mapA, foot_bun, List.append_nil, List.nil_append, List.cons_append, List.nodup_cons, List.nodup_nil, List.mem_cons, List.not_mem_nil, List.mem_singleton, List.forall_mem_cons, not_or, not_false_eq_true, and_true, true_and, or_false, false_or, forall_eq_or_imp, forall_eq, implies_true, Nat.zero_add, Nat.reduceAdd, and_assoc, upd_listA, upd_datasA, upd_txA, upd_mapA, upd_bun, ptb_listA, factsP_listA, Nat.mul_one, ptb_datasA, factsP_datasA, ptb_txA, factsP_txA, itCells] at cs
            go_wp2_with fail
            go_roundw
            case rel => exact ⟨r + 1, L, by omega, by go_num, O, Lib.hid (by rw [HVR.out]; exact HQ.out)⟩
            case measure => simp [intOf]; omega
          · have hva := HVA.out r
            rw [if_neg hz] at hva
            obtain ⟨rest, hsp⟩ := HSP.out r hr4 hz
            have hzz : (xi r == 0) = false := by simpa using hz
            have hzn : (xi r != 0) = true := by simpa using hz
            have CS := Lib.hid (fun W (hW : Pre W L) => HS.out _ _ _ hsp L W HQ.out hW)
            simp only [Inst.val] at CS
            have HVR := Lib.hid hva
            clear hva hsp
            generalize xi r = inc at hi hzz hzn hz
            skip
            have cs := O.facts
            try simp only [factsP, cellsP, roomP, foots_cons, foots_nil, foots_append, foot_pt, ptb, ptb_mapA, foot_mapA, factsP_mapA, foot_bun, List.append_nil, List.nil_append, List.cons_append, List.nodup_cons, List.nodup_nil, List.mem_cons, List.not_mem_nil, List.mem_singleton, List.forall_mem_cons, not_or, not_false_eq_true, and_true, true_and, or_false, false_or, forall_eq_or_imp, forall_eq, implies_true, Nat.zero_add, Nat.reduceAdd, and_assoc, upd_listA, upd_datasA, upd_txA, upd_mapA, upd_bun, ptb_listA, factsP_listA, Nat.mul_one, ptb_datasA, factsP_datasA, ptb_txA, factsP_txA, itCells] at cs
            have v1 := (HE.out _ _ HQ.out _ O.tail1)
            try simp only [cellsQ, roomP, and_assoc, and_true, true_and, Nat.add_zero, Nat.zero_add, Nat.reduceAdd, factsP, cellsP, roomP, foots_cons, foots_nil, foots_append, foot_pt, ptb, ptb_mapA, foot_mapA, factsP_mapA, foot_bun, List.append_nil, List.nil_append, List.cons_append, List.nodup_cons, List.nodup_nil, List.mem_cons, List.not_mem_nil, List.mem_singleton, List.forall_mem_cons, not_or, not_false_eq_true, and_true, true_and, or_false, false_or, forall_eq_or_imp, forall_eq, implies_true, Nat.zero_add, Nat.reduceAdd, and_assoc, upd_listA, upd_datasA, upd_txA, upd_mapA, upd_bun, ptb_listA, factsP_listA, Nat.mul_one, ptb_datasA, factsP_datasA, ptb_txA, factsP_txA, itCells] at v1
            go_upto_region 7 with fail
            apply region_held_mem [] (by kernel_rfl)
            case O => repeat' (first | (with_reducible exact O) | (with_reducible apply Mem.drew) | (with_reducible apply Mem.drewN) | (with_reducible apply Mem.ext) | (with_reducible apply Mem.alloc) | (with_reducible apply Mem.setCell) | (simp only [ptb, ptb_upd, foots_cons, List.mem_cons, World.size_alloc, size_ext, World.size_setCell, true_or, or_true, eq_self_iff_true, ptb_listA, ptb_datasA, ptb_txA]))
            case' h =>
              intro wr1 O'
              (try clear O)
              have O := O'
              clear O'
              (first | simp only [sel, rst, List.cons_append, List.nil_append, World.size_alloc, size_ext, World.size_setCell, size_setMap, World.size_drew, size_drewN, upd, List.set_cons_zero, List.set_cons_succ, if_true, if_false, reduceIte, not_false_eq_true, ne_lt0, ne_lt1, ne_lt2, ne_lt3, ne_lt4, upd_listA, upd_datasA, upd_txA, upd_mapA, upd_bun, cs] at O | simp only [sel, rst, List.cons_append, List.nil_append, World.size_alloc, size_ext, World.size_setCell, size_setMap, World.size_drew, size_drewN, upd, List.set_cons_zero, List.set_cons_succ, if_true, if_false, reduceIte, not_false_eq_true, ne_lt0, ne_lt1, ne_lt2, ne_lt3, ne_lt4, upd_listA, upd_datasA, upd_txA, upd_mapA, upd_bun] at O | skip)
              (try clear cs)
              (try clear v1)
              (try clear v2)
              (try clear v3)
            refine takeH (i := 0) (v := ?v1_1) rfl (by kernel_rfl) (by kernel_rfl) (by kernel_rfl) (fun _ _ _ h => h) (by rfl) ?y1_1 (O.sel []) ?r1_1
            case y1_1 =>
              intro WW hSw
              (go_simp) <;> (with_reducible rfl)
            case' r1_1 =>
              try simp only [Act.put, List.setIfInBounds_toArray, List.set_cons_zero, List.set_cons_succ]
            refine takeH (i := 1) (v := ?v1_2) rfl (by kernel_rfl) (by kernel_rfl) (by kernel_rfl) (fun _ _ _ h => h) (by rfl) ?y1_2 (O.sel []) ?r1_2
            case y1_2 =>
              intro WW hSw
              (go_simp) <;> (with_reducible rfl)
            case' r1_2 =>
              try simp only [Act.put, List.setIfInBounds_toArray, List.set_cons_zero, List.set_cons_succ]
            refine takeH (i := 2) (v := ?v1_3) rfl (by kernel_rfl) (by kernel_rfl) (by kernel_rfl) (fun _ _ _ h => h) (by rfl) ?y1_3 (O.sel []) ?r1_3
            case y1_3 =>
              intro WW hSw
              (go_simp) <;> (with_reducible rfl)
            case' r1_3 =>
              try simp only [Act.put, List.setIfInBounds_toArray, List.set_cons_zero, List.set_cons_succ]
            refine takeH (i := 3) (v := ?v1_4) rfl (by kernel_rfl) (by kernel_rfl) (by kernel_rfl) (fun _ _ _ h => h) (by rfl) ?y1_4 (O.sel []) ?r1_4
            case y1_4 =>
              intro WW hSw
              (go_simp) <;> (with_reducible rfl)
            case' r1_4 =>
              try simp only [Act.put, List.setIfInBounds_toArray, List.set_cons_zero, List.set_cons_succ]
            refine takeH (i := 4) (v := ?v1_5) rfl (by kernel_rfl) (by kernel_rfl) (by kernel_rfl) (fun _ _ _ h => h) (by rfl) ?y1_5 (O.sel []) ?r1_5
            case y1_5 =>
              intro WW hSw
              (go_simp) <;> (with_reducible rfl)
            case' r1_5 =>
              try simp only [Act.put, List.setIfInBounds_toArray, List.set_cons_zero, List.set_cons_succ]
            refine takeH (i := 5) (v := ?v1_6) rfl (by kernel_rfl) (by kernel_rfl) (by kernel_rfl) (fun _ _ _ h => h) (by rfl) ?y1_6 (O.sel []) ?r1_6
            case y1_6 =>
              intro WW hSw
              (go_simp) <;> (with_reducible rfl)
            case' r1_6 =>
              try simp only [Act.put, List.setIfInBounds_toArray, List.set_cons_zero, List.set_cons_succ]
            refine takeH (i := 6) (v := ?v1_7) rfl (by kernel_rfl) (by kernel_rfl) (by kernel_rfl) (fun _ _ _ h => h) (by rfl) ?y1_7 (O.sel []) ?r1_7
            case y1_7 =>
              intro WW hSw
              (go_simp) <;> (with_reducible rfl)
            case' r1_7 =>
              try simp only [Act.put, List.setIfInBounds_toArray, List.set_cons_zero, List.set_cons_succ]
            refine takeH (i := 8) (v := ?v1_8) rfl (by kernel_rfl) (by kernel_rfl) (by kernel_rfl) (fun _ _ _ h => h) (by rfl) ?y1_8 (O.sel []) ?r1_8
            case y1_8 =>
              intro WW hSw
              (go_simp) <;> (with_reducible rfl)
            case' r1_8 =>
              try simp only [Act.put, List.setIfInBounds_toArray, List.set_cons_zero, List.set_cons_succ]
            refine takeH (i := 10) (v := ?v1_9) rfl (by kernel_rfl) (by kernel_rfl) (by kernel_rfl) (fun _ _ _ h => h) (by rfl) ?y1_9 (O.sel []) ?r1_9
            case y1_9 =>
              intro WW hSw
              (go_simp) <;> (with_reducible rfl)
            case' r1_9 =>
              try simp only [Act.put, List.setIfInBounds_toArray, List.set_cons_zero, List.set_cons_succ]
            apply cutT0
            case main =>
              intro hT1_0
              refine wpAnyH_ready (rs := [7, 9]) (by kernel_rfl) (by simp) ?_
              refine consH rfl (fun K hK => ?_) ?_
              · have cs := O.facts
                simp only [factsP, cellsP, roomP, foots_cons, foots_nil, foots_append, foot_pt, ptb, ptb_mapA, foot_mapA, factsP_mapA, foot_bun, List.append_nil, List.nil_append, List.cons_append, List.nodup_cons, List.nodup_nil, List.mem_cons, List.not_mem_nil, List.mem_singleton, List.forall_mem_cons, not_or, not_false_eq_true, and_true, true_and, or_false, false_or, forall_eq_or_imp, forall_eq, implies_true, Nat.zero_add, Nat.reduceAdd, and_assoc, upd_listA, upd_datasA, upd_txA, upd_mapA, upd_bun, ptb_listA, factsP_listA, Nat.mul_one, ptb_datasA, factsP_datasA, ptb_txA, factsP_txA, itCells] at cs
                have v1 := (HE.out _ _ HQ.out _ O.tail1)
                try simp only [cellsQ, roomP, and_assoc, and_true, true_and, Nat.add_zero, Nat.zero_add, Nat.reduceAdd, factsP, cellsP, roomP, foots_cons, foots_nil, foots_append, foot_pt, ptb, ptb_mapA, foot_mapA, factsP_mapA, foot_bun, List.append_nil, List.nil_append, List.cons_append, List.nodup_cons, List.nodup_nil, List.mem_cons, List.not_mem_nil, List.mem_singleton, List.forall_mem_cons, not_or, not_false_eq_true, and_true, true_and, or_false, false_or, forall_eq_or_imp, forall_eq, implies_true, Nat.zero_add, Nat.reduceAdd, and_assoc, upd_listA, upd_datasA, upd_txA, upd_mapA, upd_bun, ptb_listA, factsP_listA, Nat.mul_one, ptb_datasA, factsP_datasA, ptb_txA, factsP_txA, itCells] at v1
                go_simp
                apply Mem.atK
                case h => repeat' (first | (with_reducible exact O) | (with_reducible apply Mem.drew) | (with_reducible apply Mem.drewN) | (with_reducible apply Mem.ext) | (with_reducible apply Mem.alloc) | (with_reducible apply Mem.setCell) | (simp only [ptb, ptb_upd, foots_cons, List.mem_cons, World.size_alloc, size_ext, World.size_setCell, true_or, or_true, eq_self_iff_true, ptb_listA, ptb_datasA, ptb_txA]))
                intro w1_10 O'
                (try clear O)
                have O := O'
                clear O'
                (first | simp only [sel, rst, List.cons_append, List.nil_append, World.size_alloc, size_ext, World.size_setCell, size_setMap, World.size_drew, size_drewN, upd, List.set_cons_zero, List.set_cons_succ, if_true, if_false, reduceIte, not_false_eq_true, ne_lt0, ne_lt1, ne_lt2, ne_lt3, ne_lt4, upd_listA, upd_datasA, upd_txA, upd_mapA, upd_bun, cs] at O | simp only [sel, rst, List.cons_append, List.nil_append, World.size_alloc, size_ext, World.size_setCell, size_setMap, World.size_drew, size_drewN, upd, List.set_cons_zero, List.set_cons_succ, if_true, if_false, reduceIte, not_false_eq_true, ne_lt0, ne_lt1, ne_lt2, ne_lt3, ne_lt4, upd_listA, upd_datasA, upd_txA, upd_mapA, upd_bun] at O | skip)
                (try clear cs)
                (try clear v1)
                (try clear v2)
                (try clear v3)
                refine hK.out _ _ (O.sel []) (fun _ => ?_)
                clear hK K
                refine wpAnyH_ready (rs := [9]) (by kernel_rfl) (by simp) ?_
                refine consH rfl (fun K hK => ?_) AllReadyH.nil
                have cs := O.facts
                simp only [factsP, cellsP, roomP, foots_cons, foots_nil, foots_append, foot_pt, ptb, ptb_mapA, foot_mapA, factsP_mapA, foot_bun, List.append_nil, List.nil_append, List.cons_append, List.nodup_cons, List.nodup_nil, List.mem_cons, List.not_mem_nil, List.mem_singleton, List.forall_mem_cons, not_or, not_false_eq_true, and_true, true_and, or_false, false_or, forall_eq_or_imp, forall_eq, implies_true, Nat.zero_add, Nat.reduceAdd, and_assoc, upd_listA, upd_datasA, upd_txA, upd_mapA, upd_bun, ptb_listA, factsP_listA, Nat.mul_one, ptb_datasA, factsP_datasA, ptb_txA, factsP_txA, itCells] at cs
                have v1 := (HE.out _ _ HQ.out _ O.tail1)
                try simp only [cellsQ, roomP, and_assoc, and_true, true_and, Nat.add_zero, Nat.zero_add, Nat.reduceAdd, factsP, cellsP, roomP, foots_cons, foots_nil, foots_append, foot_pt, ptb, ptb_mapA, foot_mapA, factsP_mapA, foot_bun, List.append_nil, List.nil_append, List.cons_append, List.nodup_cons, List.nodup_nil, List.mem_cons, List.not_mem_nil, List.mem_singleton, List.forall_mem_cons, not_or, not_false_eq_true, and_true, true_and, or_false, false_or, forall_eq_or_imp, forall_eq, implies_true, Nat.zero_add, Nat.reduceAdd, and_assoc, upd_listA, upd_datasA, upd_txA, upd_mapA, upd_bun, ptb_listA, factsP_listA, Nat.mul_one, ptb_datasA, factsP_datasA, ptb_txA, factsP_txA, itCells] at v1
                go_simp
                apply Mem.atK
                case h => repeat' (first | (with_reducible exact O) | (with_reducible apply Mem.drew) | (with_reducible apply Mem.drewN) | (with_reducible apply Mem.ext) | (with_reducible apply Mem.alloc) | (with_reducible apply Mem.setCell) | (simp only [ptb, ptb_upd, foots_cons, List.mem_cons, World.size_alloc, size_ext, World.size_setCell, true_or, or_true, eq_self_iff_true, ptb_listA, ptb_datasA, ptb_txA]))
                intro w1_11 O'
                (try clear O)
                have O := O'
                clear O'
                (first | simp only [sel, rst, List.cons_append, List.nil_append, World.size_alloc, size_ext, World.size_setCell, size_setMap, World.size_drew, size_drewN, upd, List.set_cons_zero, List.set_cons_succ, if_true, if_false, reduceIte, not_false_eq_true, ne_lt0, ne_lt1, ne_lt2, ne_lt3, ne_lt4, upd_listA, upd_datasA, upd_txA, upd_mapA, upd_bun, cs] at O | simp only [sel, rst, List.cons_append, List.nil_append, World.size_alloc, size_ext, World.size_setCell, size_setMap, World.size_drew, size_drewN, upd, List.set_cons_zero, List.set_cons_succ, if_true, if_false, reduceIte, not_false_eq_true, ne_lt0, ne_lt1, ne_lt2, ne_lt3, ne_lt4, upd_listA, upd_datasA, upd_txA, upd_mapA, upd_bun] at O | skip)
                (try clear cs)
                (try clear v1)
                (try clear v2)
                (try clear v3)
                refine hK.out _ _ (O.sel []) (fun _ => ?_)
                clear hK K
                refine takeH (i := 11) (v := ?v1_12) rfl (by kernel_rfl) (by kernel_rfl) (by kernel_rfl) (fun _ _ _ h => h) (by rfl) ?y1_12 (O.sel []) ?r1_12
                case y1_12 =>
                  intro WW hSw
                  (go_simp) <;> (with_reducible rfl)
                case' r1_12 =>
                  try simp only [Act.put, List.setIfInBounds_toArray, List.set_cons_zero, List.set_cons_succ]
                revert O
                exact hT1_0.out  w1_11
              refine consH rfl (fun K hK => ?_) ?_
              · have cs := O.facts
                simp only [factsP, cellsP, roomP, foots_cons, foots_nil, foots_append, foot_pt, ptb, ptb_mapA, foot_mapA, factsP_mapA, foot_bun, List.append_nil, List.nil_append, List.cons_append, List.nodup_cons, List.nodup_nil, List.mem_cons, List.not_mem_nil, List.mem_singleton, List.forall_mem_cons, not_or, not_false_eq_true, and_true, true_and, or_false, false_or, forall_eq_or_imp, forall_eq, implies_true, Nat.zero_add, Nat.reduceAdd, and_assoc, upd_listA, upd_datasA, upd_txA, upd_mapA, upd_bun, ptb_listA, factsP_listA, Nat.mul_one, ptb_datasA, factsP_datasA, ptb_txA, factsP_txA, itCells] at cs
                have v1 := (HE.out _ _ HQ.out _ O.tail1)
                try simp only [cellsQ, roomP, and_assoc, and_true, true_and, Nat.add_zero, Nat.zero_add, Nat.reduceAdd, factsP, cellsP, roomP, foots_cons, foots_nil, foots_append, foot_pt, ptb, ptb_mapA, foot_mapA, factsP_mapA, foot_bun, List.append_nil, List.nil_append, List.cons_append, List.nodup_cons, List.nodup_nil, List.mem_cons, List.not_mem_nil, List.mem_singleton, List.forall_mem_cons, not_or, not_false_eq_true, and_true, true_and, or_false, false_or, forall_eq_or_imp, forall_eq, implies_true, Nat.zero_add, Nat.reduceAdd, and_assoc, upd_listA, upd_datasA, upd_txA, upd_mapA, upd_bun, ptb_listA, factsP_listA, Nat.mul_one, ptb_datasA, factsP_datasA, ptb_txA, factsP_txA, itCells] at v1
                go_simp
                apply Mem.atK
                case h => repeat' (first | (with_reducible exact O) | (with_reducible apply Mem.drew) | (with_reducible apply Mem.drewN) | (with_reducible apply Mem.ext) | (with_reducible apply Mem.alloc) | (with_reducible apply Mem.setCell) | (simp only [ptb, ptb_upd, foots_cons, List.mem_cons, World.size_alloc, size_ext, World.size_setCell, true_or, or_true, eq_self_iff_true, ptb_listA, ptb_datasA, ptb_txA]))
                intro w1_13 O'
                (try clear O)
                have O := O'
                clear O'
                (first | simp only [sel, rst, List.cons_append, List.nil_append, World.size_alloc, size_ext, World.size_setCell, size_setMap, World.size_drew, size_drewN, upd, List.set_cons_zero, List.set_cons_succ, if_true, if_false, reduceIte, not_false_eq_true, ne_lt0, ne_lt1, ne_lt2, ne_lt3, ne_lt4, upd_listA, upd_datasA, upd_txA, upd_mapA, upd_bun, cs] at O | simp only [sel, rst, List.cons_append, List.nil_append, World.size_alloc, size_ext, World.size_setCell, size_setMap, World.size_drew, size_drewN, upd, List.set_cons_zero, List.set_cons_succ, if_true, if_false, reduceIte, not_false_eq_true, ne_lt0, ne_lt1, ne_lt2, ne_lt3, ne_lt4, upd_listA, upd_datasA, upd_txA, upd_mapA, upd_bun] at O | skip)
                (try clear cs)
                (try clear v1)
                (try clear v2)
                (try clear v3)
                refine hK.out _ _ (O.sel []) (fun _ => ?_)
                clear hK K
                refine wpAnyH_ready (rs := [7]) (by kernel_rfl) (by simp) ?_
                refine consH rfl (fun K hK => ?_) AllReadyH.nil
                have cs := O.facts
                simp only [factsP, cellsP, roomP, foots_cons, foots_nil, foots_append, foot_pt, ptb, ptb_mapA, foot_mapA, factsP_mapA, foot_bun, List.append_nil, List.nil_append, List.cons_append, List.nodup_cons, List.nodup_nil, List.mem_cons, List.not_mem_nil, List.mem_singleton, List.forall_mem_cons, not_or, not_false_eq_true, and_true, true_and, or_false, false_or, forall_eq_or_imp, forall_eq, implies_true, Nat.zero_add, Nat.reduceAdd, and_assoc, upd_listA, upd_datasA, upd_txA, upd_mapA, upd_bun, ptb_listA, factsP_listA, Nat.mul_one, ptb_datasA, factsP_datasA, ptb_txA, factsP_txA, itCells] at cs
                have v1 := (HE.out _ _ HQ.out _ O.tail1)
                try simp only [cellsQ, roomP, and_assoc, and_true, true_and, Nat.add_zero, Nat.zero_add, Nat.reduceAdd, factsP, cellsP, roomP, foots_cons, foots_nil, foots_append, foot_pt, ptb, ptb_mapA, foot_mapA, factsP_mapA, foot_bun, List.append_nil, List.nil_append, List.cons_append, List.nodup_cons, List.nodup_nil, List.mem_cons, List.not_mem_nil, List.mem_singleton, List.forall_mem_cons, not_or, not_false_eq_true, and_true, true_and, or_false, false_or, forall_eq_or_imp, forall_eq, implies_true, Nat.zero_add, Nat.reduceAdd, and_assoc, upd_listA, upd_datasA, upd_txA, upd_mapA, upd_bun, ptb_listA, factsP_listA, Nat.mul_one, ptb_datasA, factsP_datasA, ptb_txA, factsP_txA, itCells] at v1
                go_simp
                apply Mem.atK
                case h => repeat' (first | (with_reducible exact O) | (with_reducible apply Mem.drew) | (with_reducible apply Mem.drewN) | (with_reducible apply Mem.ext) | (with_reducible apply Mem.alloc) | (with_reducible apply Mem.setCell) | (simp only [ptb, ptb_upd, foots_cons, List.mem_cons, World.size_alloc, size_ext, World.size_setCell, true_or, or_true, eq_self_iff_true, ptb_listA, ptb_datasA, ptb_txA]))
                intro w1_14 O'
                (try clear O)
                have O := O'
                clear O'
                (first | simp only [sel, rst, List.cons_append, List.nil_append, World.size_alloc, size_ext, World.size_setCell, size_setMap, World.size_drew, size_drewN, upd, List.set_cons_zero, List.set_cons_succ, if_true, if_false, reduceIte, not_false_eq_true, ne_lt0, ne_lt1, ne_lt2, ne_lt3, ne_lt4, upd_listA, upd_datasA, upd_txA, upd_mapA, upd_bun, cs] at O | simp only [sel, rst, List.cons_append, List.nil_append, World.size_alloc, size_ext, World.size_setCell, size_setMap, World.size_drew, size_drewN, upd, List.set_cons_zero, List.set_cons_succ, if_true, if_false, reduceIte, not_false_eq_true, ne_lt0, ne_lt1, ne_lt2, ne_lt3, ne_lt4, upd_listA, upd_datasA, upd_txA, upd_mapA, upd_bun] at O | skip)
                (try clear cs)
                (try clear v1)
                (try clear v2)
                (try clear v3)
                refine hK.out _ _ (O.sel []) (fun _ => ?_)
                clear hK K
                refine takeH (i := 11) (v := ?v1_15) rfl (by kernel_rfl) (by kernel_rfl) (by kernel_rfl) (fun _ _ _ h => h) (by rfl) ?y1_15 (O.sel []) ?r1_15
                case y1_15 =>
                  intro WW hSw
                  (go_simp) <;> (with_reducible rfl)
                case' r1_15 =>
                  try simp only [Act.put, List.setIfInBounds_toArray, List.set_cons_zero, List.set_cons_succ]
                revert O
                exact hT1_0.out  w1_14
              exact AllReadyH.nil
            case' tail =>
              intro w1_16 O
            refine wpAnyH_ready (rs := [12]) (by kernel_rfl) (by simp) ?_
            refine consH rfl (fun K hK => ?_) AllReadyH.nil
            have cs := O.facts
            simp only [factsP, cellsP, roomP, foots_cons, foots_nil, foots_append, foot_pt, ptb, ptb_mapA, foot_mapA, factsP_mapA, foot_bun, List.append_nil, List.nil_append, List.cons_append, List.nodup_cons, List.nodup_nil, List.mem_cons, List.not_mem_nil, List.mem_singleton, List.forall_mem_cons, not_or, not_false_eq_true, and_true, true_and, or_false, false_or, forall_eq_or_imp, forall_eq, implies_true, Nat.zero_add, Nat.reduceAdd, and_assoc, upd_listA, upd_datasA, upd_txA, upd_mapA, upd_bun, ptb_listA, factsP_listA, Nat.mul_one, ptb_datasA, factsP_datasA, ptb_txA, factsP_txA, itCells] at cs
            have v1 := (HE.out _ _ HQ.out _ O.tail1)
            try simp only [cellsQ, roomP, and_assoc, and_true, true_and, Nat.add_zero, Nat.zero_add, Nat.reduceAdd, factsP, cellsP, roomP, foots_cons, foots_nil, foots_append, foot_pt, ptb, ptb_mapA, foot_mapA, factsP_mapA, foot_bun, List.append_nil, List.nil_append, List.cons_append, List.nodup_cons, List.nodup_nil, List.mem_cons, List.not_mem_nil, List.mem_singleton, List.forall_mem_cons, not_or, not_false_eq_true, and_true, true_and, or_false, false_or, forall_eq_or_imp, forall_eq, implies_true, Nat.zero_add, Nat.reduceAdd, and_assoc, upd_listA, upd_datasA, upd_txA, upd_mapA, upd_bun, ptb_listA, factsP_listA, Nat.mul_one, ptb_datasA, factsP_datasA, ptb_txA, factsP_txA, itCells] at v1
            go_simp
            apply Mem.atCall
            case h => repeat' (first | (with_reducible exact O) | (with_reducible apply Mem.drew) | (with_reducible apply Mem.drewN) | (with_reducible apply Mem.ext) | (with_reducible apply Mem.alloc) | (with_reducible apply Mem.setCell) | (simp only [ptb, ptb_upd, foots_cons, List.mem_cons, World.size_alloc, size_ext, World.size_setCell, true_or, or_true, eq_self_iff_true, ptb_listA, ptb_datasA, ptb_txA]))
            intro w1_17 O'
            (try clear O)
            have O := O'
            clear O'
            (first | simp only [sel, rst, List.cons_append, List.nil_append, World.size_alloc, size_ext, World.size_setCell, size_setMap, World.size_drew, size_drewN, upd, List.set_cons_zero, List.set_cons_succ, if_true, if_false, reduceIte, not_false_eq_true, ne_lt0, ne_lt1, ne_lt2, ne_lt3, ne_lt4, upd_listA, upd_datasA, upd_txA, upd_mapA, upd_bun, cs] at O | simp only [sel, rst, List.cons_append, List.nil_append, World.size_alloc, size_ext, World.size_setCell, size_setMap, World.size_drew, size_drewN, upd, List.set_cons_zero, List.set_cons_succ, if_true, if_false, reduceIte, not_false_eq_true, ne_lt0, ne_lt1, ne_lt2, ne_lt3, ne_lt4, upd_listA, upd_datasA, upd_txA, upd_mapA, upd_bun] at O | skip)
            (try clear cs)
            (try clear v1)
            (try clear v2)
            (try clear v3)
            refine (CS.out _ O.tail1).mono ?_
            rintro e w1_17' ⟨rfl, L2, hQ2, o⟩
            replace O := O.callTail1 o
            clear o
            try simp only [put, List.cons_append, List.nil_append] at O
            go_wp2_with fail
            refine hK.out _ _ (O.sel []) (fun _ => ?_)
            clear hK K
            refine wpAnyH_done (by kernel_rfl) ?_ _
            skip
            have cs := O.facts
            try simp only [factsP, cellsP, roomP, foots_cons, foots_nil, foots_append, foot_pt, ptb, ptb_mapA, foot_mapA, factsP_mapA, foot_bun, List.append_nil, List.nil_append, List.cons_append, List.nodup_cons, List.nodup_nil, List.mem_cons, List.not_mem_nil, List.mem_singleton, List.forall_mem_cons, not_or, not_false_eq_true, and_true, true_and, or_false, false_or, forall_eq_or_imp, forall_eq, implies_true, Nat.zero_add, Nat.reduceAdd, and_assoc, upd_listA, upd_datasA, upd_txA, upd_mapA, upd_bun, ptb_listA, factsP_listA, Nat.mul_one, ptb_datasA, factsP_datasA, ptb_txA, factsP_txA, itCells] at cs
            go_wp2_with fail
            go_roundw
            case rel => exact ⟨r + 1, L2, by omega, by go_num, O, Lib.hid (by rw [HVR.out, ← List.append_assoc]; exact hQ2)⟩
            case measure => simp [intOf]; omega
        · obtain rfl : r = 4 := by omega
          skip
          have cs := O.facts
          try simp only [factsP, cellsP, roomP, foots_cons, foots_nil, foots_append, foot_pt, ptb, ptb_mapA, foot_mapA, factsP_mapA, foot_bun, List.append_nil, List.nil_append, List.cons_append, List.nodup_cons, List.nodup_nil, List.mem_cons, List.not_mem_nil, List.mem_singleton, List.forall_mem_cons, not_or, not_false_eq_true, and_true, true_and, or_false, false_or, forall_eq_or_imp, forall_eq, implies_true, Nat.zero_add, Nat.reduceAdd, and_assoc, upd_listA, upd_datasA, upd_txA, upd_mapA, upd_bun, ptb_listA, factsP_listA, Nat.mul_one, ptb_datasA, factsP_datasA, ptb_txA, factsP_txA, itCells] at cs
          go_wp2_with fail
          go_roundw
          case rel => exact ⟨k + 1, L, by omega, by go_num, O.drop1, Lib.hid (by rw [HV.out]; exact HQ.out)⟩
          case measure => simp [intOf]; omega
    · obtain rfl : k = s.length := by omega
      skip
      have cs := O.facts
      try simp only [factsP, cellsP, roomP, foots_cons, foots_nil, foots_append, foot_pt, ptb, ptb_mapA, foot_mapA, factsP_mapA, foot_bun, List.append_nil, List.nil_append, List.cons_append, List.nodup_cons, List.nodup_nil, List.mem_cons, List.not_mem_nil, List.mem_singleton, List.forall_mem_cons, not_or, not_false_eq_true, and_true, true_and, or_false, false_or, forall_eq_or_imp, forall_eq, implies_true, Nat.zero_add, Nat.reduceAdd, and_assoc, upd_listA, upd_datasA, upd_txA, upd_mapA, upd_bun, ptb_listA, factsP_listA, Nat.mul_one, ptb_datasA, factsP_datasA, ptb_txA, factsP_txA, itCells] at cs
      go_wp2_with fail
      go_end0
      exact ⟨rfl, L, HQ.out, O⟩
end Go.Proofs.Ytplliabmnhigbaa
