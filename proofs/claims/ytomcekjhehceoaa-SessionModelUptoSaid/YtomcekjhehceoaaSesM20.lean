/- WALKS: a session in memory; errors; open, State, Has. -/
import Derived.Test.YtomcekjhehceoaaTxM20
import Derived.Test.YtomcekjhehceoaaSesP20
set_option linter.unusedVariables false
set_option linter.unusedSimpArgs false
namespace Go.Proofs.Ytomcekjhehceoaa
open Go.RowKit Go.Tk
def ptrV (b : Nat) : Value := .pointer (some ⟨b, 0, none⟩)
abbrev intK : KeyTy Try.prog 3 Int := intKey Try.underlying3
theorem zeroPtrT (w : World) : (zeroValue 78).run Try.prog w = .ok (.pointer none) w := by kernel_rfl
/-- a bucket that was learnt, as plain data -/
structure LogP where
  bucket : Int
  ver : Int
  inc : Nat → Int
  was : List En
  now : List En
/-- .. with its memory -/
structure LogM where
  tb : Nat
  bucket : Int
  ver : Int
  inc : Nat → Int
  WA : Option Addr
  wc : Nat
  was : List En
  NA : Option Addr
  nc : Nat
  now : List En
def LogM.p (E : LogM) : LogP := ⟨E.bucket, E.ver, E.inc, E.was, E.now⟩
def LogM.cells (E : LogM) : List Value := [.int .i64 E.bucket, .int .u32 E.ver, .bool false, .slice none 0 0, .int .u32 (E.inc 0), .int .u32 (E.inc 1), .int .u32 (E.inc 2), .int .u32 (E.inc 3), .slice E.WA E.was.length E.wc, .slice E.NA E.now.length E.nc]
abbrev entsA (A : Option Addr) (c : Nat) (l : List En) : Asn := listA 65 2 entCells A c l
def LogM.parts (E : LogM) : List Asn := [.pt E.tb E.cells 83, entsA E.WA E.wc E.was, entsA E.NA E.nc E.now]
def logA (E : LogM) : Asn := bun E.parts
theorem factsP_logA {w : World} {L : List Asn} {E : LogM} : factsP w (logA E :: L) = factsP w L := rfl
theorem ptb_logA {L : List Asn} {E : LogM} : ptb (logA E :: L) = ptb L := rfl
structure SesH where
  sb : Nat
  lb : Nat
  id : Int
  client : Int
  m0 : Int
  m1 : Int
  m2 : Int
def lgPtr (E : LogM) : Int × Nat := (E.bucket, E.tb)
def SesH.pt (S : SesH) (done : Bool) : Asn := .pt S.sb [.int .u64 S.id, .int .i64 S.client, .int .i64 S.m0, .int .i64 S.m1, .int .i64 S.m2, .map (some S.lb), .bool done] 77
def sesL (S : SesH) (done : Bool) (ls : List LogM) : List Asn := [.pt S.sb [.int .u64 S.id, .int .i64 S.client, .int .i64 S.m0, .int .i64 S.m1, .int .i64 S.m2, .map (some S.lb), .bool done] 77, mapA intK ptrV S.lb (ls.map lgPtr), fam logA ls]
def SesH.val (S : SesH) : Value := .pointer (some ⟨S.sb, 0, none⟩)
theorem ses_open {w0 w : World} {F : List Nat} {S : SesH} {done : Bool} {ls : List LogM} {i : Nat} {E : LogM} {L : List Asn} (h : Mem w0 F w (sesL S done ls ++ L)) (hi : ls[i]? = some E) :
    Mem w0 F w (E.parts ++ fam logA (ls.eraseIdx i) :: .pt S.sb [.int .u64 S.id, .int .i64 S.client, .int .i64 S.m0, .int .i64 S.m1, .int .i64 S.m2, .map (some S.lb), .bool done] 77 :: mapA intK ptrV S.lb (ls.map lgPtr) :: L) := by
  have O := h
  simp only [sesL, List.cons_append, List.nil_append] at O
  have O1 := O.perm (L' := fam logA ls :: .pt S.sb [.int .u64 S.id, .int .i64 S.client, .int .i64 S.m0, .int .i64 S.m1, .int .i64 S.m2, .map (some S.lb), .bool done] 77 :: mapA intK ptrV S.lb (ls.map lgPtr) :: L) (by
    refine (List.Perm.cons _ (List.Perm.swap _ _ _)).trans (List.Perm.swap _ _ _))
  exact Mem.open_ (Mem.famTake O1 hi)
theorem map_set_same {α β : Type} {f : α → β} {l : List α} {k : Nat} {a a' : α} (h : l[k]? = some a) (e : f a' = f a) : (l.set k a').map f = l.map f := by
  rw [List.map_set, e]
  apply List.ext_getElem?
  intro i
  rw [List.getElem?_set]
  by_cases hk : k = i
  · subst hk
    have h1 : (l.map f)[k]? = some (f a) := by rw [List.getElem?_map, h]; rfl
    rw [if_pos rfl, h1, if_pos (by rw [List.length_map]; exact (List.getElem?_eq_some_iff.1 h).1)]
  · rw [if_neg hk]
theorem ses_close {w0 w : World} {F : List Nat} {S : SesH} {done : Bool} {ls : List LogM} {i : Nat} {E E' : LogM} {L : List Asn} (hi : ls[i]? = some E) (hb : lgPtr E' = lgPtr E)
    (h : Mem w0 F w (E'.parts ++ fam logA (ls.eraseIdx i) :: .pt S.sb [.int .u64 S.id, .int .i64 S.client, .int .i64 S.m0, .int .i64 S.m1, .int .i64 S.m2, .map (some S.lb), .bool done] 77 :: mapA intK ptrV S.lb (ls.map lgPtr) :: L)) :
    Mem w0 F w (sesL S done (ls.set i E') ++ L) := by
  have O1 := Mem.famPut (f := logA) (a' := E') (Mem.shut h) (List.getElem?_eq_some_iff.1 hi).1
  have e1 : (ls.set i E').map lgPtr = ls.map lgPtr := map_set_same hi hb
  simp only [sesL, List.cons_append, List.nil_append, e1]
  exact O1.perm (by
    refine ((List.Perm.swap _ _ _).trans (List.Perm.cons _ (List.Perm.swap _ _ _))))
/-- the log's keys are told apart -/
theorem ses_nodup {w0 w : World} {F : List Nat} {S : SesH} {done : Bool} {ls : List LogM} (h : Mem w0 F w (sesL S done ls)) : (ls.map (·.bucket)).Nodup := by
  have := MapAt.nodup (κ := intK) (vv := ptrV) (b := S.lb) (m := ls.map lgPtr) (h.map (by simp [sesL]))
  simpa [keysOf, lgPtr, Function.comp_def] using this
theorem ses_get {ls : List LogM} (hnd : (ls.map (·.bucket)).Nodup) {i : Nat} {E : LogM} (hi : ls[i]? = some E) : mget (ls.map lgPtr) E.bucket = some E.tb :=
  mget_at (j := i) (by simpa [keysOf, lgPtr, Function.comp_def] using hnd) (by rw [List.getElem?_map, hi]; rfl)
theorem ses_none {ls : List LogM} {b : Int} (h : ∀ E ∈ ls, E.bucket ≠ b) : mget (ls.map lgPtr) b = none := by
  rw [mget_none]
  intro hk
  simp only [keysOf, List.map_map, List.mem_map, Function.comp, lgPtr] at hk
  obtain ⟨E, hE, he⟩ := hk
  exact h E hE he
theorem look_log {W : World} {lb : Nat} {m : List (Int × Nat)} (h : MapAt intK ptrV W lb m) {b : Int} (hk : (Lit.int .i64 b).wf = true) : (Instr.lookup 75 (.map (some lb)) (.int .i64 b) false).run Try.prog W = .ok (((mget m b).map ptrV).getD (.pointer none)) W := by
  have := h.lookup Try.underlying75 zeroPtrT (k := b) hk false
  simp only [Bool.false_eq_true, if_false] at this
  rw [show intK.kv b = .int .i64 b from rfl] at this
  exact this
/-! ### errors -/
def errV : Option Nat → Value
  | none => .nilIface
  | some fb => .iface 92 (.pointer (some ⟨fb, 0, none⟩))
def errL (q : Option Nat) (e : Int) (of : ByteArray) : List Asn :=
  match q with
  | none => []
  | some fb => [.pt fb [.int .i64 e, .string of] 95]
def errA (q : Option Nat) (e : Int) (of : ByteArray) : Asn := bun (errL q e of)
theorem factsP_errA {w : World} {L : List Asn} {q : Option Nat} {e : Int} {of : ByteArray} : factsP w (errA q e of :: L) = factsP w L := rfl
theorem ptb_errA {L : List Asn} {q : Option Nat} {e : Int} {of : ByteArray} : ptb (errA q e of :: L) = ptb L := rfl
theorem upd_errA {q : Option Nat} {e : Int} {of : ByteArray} {L : List Asn} {b j : Nat} {v : Value} : upd (errA q e of :: L) b j v = errA q e of :: upd L b j v := rfl
def ErrIs (q : Option Nat) (e : Int) : Prop := q = none ↔ e = 0
theorem ErrIs.nil : ErrIs none 0 := ⟨fun _ => rfl, fun _ => rfl⟩
theorem ErrIs.fault {fb : Nat} {e : Int} (h : e ≠ 0) : ErrIs (some fb) e := ⟨fun x => (by simp at x), fun x => absurd x h⟩
set_option maxRecDepth 100000 in
theorem s_fault (w : World) (of : ByteArray) (e : Int) : Calls Try.prog 25 #[.string of, .int .i64 e] w (fun r w' => ∃ q, r = .returned (errV q) ∧ ErrIs q e ∧ Mem w [] w' [errA q e of]) := by
  have O : Mem w [] w [] := Mem.begin
  by_cases he : e = 0
  · subst he
    go_enter Try.func25, Try.ntmps25
    have cs := O.facts
    try simp only [factsP, cellsP, roomP, foots_cons, foots_nil, foots_append, foot_pt, ptb, ptb_mapA, foot_mapA, factsP_mapA, foot_bun, List.append_nil, List.nil_append, List.cons_append, List.nodup_cons, List.nodup_nil, List.mem_cons, List.not_mem_nil, List.mem_singleton, List.forall_mem_cons, not_or, not_false_eq_true, and_true, true_and, or_false, false_or, forall_eq_or_imp, forall_eq, implies_true, Nat.zero_add, Nat.reduceAdd, and_assoc, upd_listA, upd_mapA, upd_bun, upd_fam, ptb_listA, factsP_listA, factsP_mapA, ptb_mapA, Nat.mul_one, factsP_bun, ptb_bun, ptb_fam, factsP_fam] at cs
    go_wp2_with fail
    go_ret
    exact ⟨none, rfl, ErrIs.nil, Mem.shut (l := []) O⟩
  · have he2 : (e == 0) = false := by simpa using he
    go_enter Try.func25, Try.ntmps25
    have cs := O.facts
    try simp only [factsP, cellsP, roomP, foots_cons, foots_nil, foots_append, foot_pt, ptb, ptb_mapA, foot_mapA, factsP_mapA, foot_bun, List.append_nil, List.nil_append, List.cons_append, List.nodup_cons, List.nodup_nil, List.mem_cons, List.not_mem_nil, List.mem_singleton, List.forall_mem_cons, not_or, not_false_eq_true, and_true, true_and, or_false, false_or, forall_eq_or_imp, forall_eq, implies_true, Nat.zero_add, Nat.reduceAdd, and_assoc, upd_listA, upd_mapA, upd_bun, upd_fam, ptb_listA, factsP_listA, factsP_mapA, ptb_mapA, Nat.mul_one, factsP_bun, ptb_bun, ptb_fam, factsP_fam] at cs
    go_wp2_with fail
    go_ret
    exact ⟨some w.heap.size, rfl, ErrIs.fault he, Mem.shut (l := [.pt w.heap.size [.int .i64 e, .string of] 95]) (O.alloc _ _)⟩
theorem s_fault_e (w : World) (of : ByteArray) (e : Int) (he : e ≠ 0) : Calls Try.prog 25 #[.string of, .int .i64 e] w (fun r w' => ∃ fb, r = .returned (errV (some fb)) ∧ Mem w [] w' [errA (some fb) e of]) :=
  (s_fault w of e).mono fun r w' ⟨q, h1, h2, h3⟩ => by
    cases q with
    | none => exact absurd (h2.1 rfl) he
    | some fb => exact ⟨fb, h1, h3⟩
set_option maxRecDepth 100000 in
theorem f_Unwrap (w : World) (fb : Nat) (e : Int) (of : ByteArray) (h : Pre w [errA (some fb) e of]) : Calls Try.prog 35 #[.pointer (some ⟨fb, 0, none⟩)] w (fun r w' => r = .returned (.iface 49 (.int .i64 e)) ∧ Mem w [] w' []) := by
  have H2 := Lib.hid (show Pre w [.pt fb [.int .i64 e, .string of] 95] by have := (Mem.open_ h).preAll; simpa [errL] using this)
  have O : Mem w [] w [] := Mem.begin
  clear h
  go_enter Try.func35, Try.ntmps35
  skip
  have cs := O.facts
  try simp only [factsP, cellsP, roomP, foots_cons, foots_nil, foots_append, foot_pt, ptb, ptb_mapA, foot_mapA, factsP_mapA, foot_bun, List.append_nil, List.nil_append, List.cons_append, List.nodup_cons, List.nodup_nil, List.mem_cons, List.not_mem_nil, List.mem_singleton, List.forall_mem_cons, not_or, not_false_eq_true, and_true, true_and, or_false, false_or, forall_eq_or_imp, forall_eq, implies_true, Nat.zero_add, Nat.reduceAdd, and_assoc, upd_listA, upd_mapA, upd_bun, upd_fam, ptb_listA, factsP_listA, factsP_mapA, ptb_mapA, Nat.mul_one, factsP_bun, ptb_bun, ptb_fam, factsP_fam] at cs
  have v1 := (H2.out.view O.fr).facts
  try simp only [cellsQ, roomP, and_assoc, and_true, true_and, Nat.add_zero, Nat.zero_add, Nat.reduceAdd, factsP, cellsP, roomP, foots_cons, foots_nil, foots_append, foot_pt, ptb, ptb_mapA, foot_mapA, factsP_mapA, foot_bun, List.append_nil, List.nil_append, List.cons_append, List.nodup_cons, List.nodup_nil, List.mem_cons, List.not_mem_nil, List.mem_singleton, List.forall_mem_cons, not_or, not_false_eq_true, and_true, true_and, or_false, false_or, forall_eq_or_imp, forall_eq, implies_true, Nat.zero_add, Nat.reduceAdd, and_assoc, upd_listA, upd_mapA, upd_bun, upd_fam, ptb_listA, factsP_listA, factsP_mapA, ptb_mapA, Nat.mul_one, factsP_bun, ptb_bun, ptb_fam, factsP_fam] at v1
  go_wp2_with fail
  go_ret
  exact ⟨rfl, O⟩
def toldB (e e' : Int) (of of' : ByteArray) : Bool := if e' = 0 then decide (e = 0) else decide (e = e') && (of.toList == of'.toList)
set_option maxRecDepth 100000 in
set_option maxHeartbeats 4000000 in
theorem q_told (w : World) (q : Option Nat) (e e' : Int) (of of' : ByteArray) (hq : ErrIs q e) (h : Pre w [errA q e of]) :
    Calls Try.prog 15 #[errV q, .int .i64 e', .string of'] w (fun r w' => r = .returned (.bool (toldB e e' of of')) ∧ Mem w [] w' []) := by
  obtain ⟨r, hr⟩ : ∃ r, r = toldB e e' of of' := ⟨_, rfl⟩
  rw [← hr]
  have HR := Lib.hid hr
  clear hr
  have HH := Lib.hid h
  skip
  have O : Mem w [] w [] := Mem.begin
  by_cases he' : e' = 0
  · subst he'
    cases q with
    | none =>
      have he := hq.1 rfl
      subst he
      have EQ : ∀ W, (binOp .eql 25 .nilIface .nilIface).run Try.prog W = .ok (.bool true) W := fun W => by kernel_rfl
      clear h
      simp only [errV]
      go_enter Try.func15, Try.ntmps15
      have cs := O.facts
      try simp only [factsP, cellsP, roomP, foots_cons, foots_nil, foots_append, foot_pt, ptb, ptb_mapA, foot_mapA, factsP_mapA, foot_bun, List.append_nil, List.nil_append, List.cons_append, List.nodup_cons, List.nodup_nil, List.mem_cons, List.not_mem_nil, List.mem_singleton, List.forall_mem_cons, not_or, not_false_eq_true, and_true, true_and, or_false, false_or, forall_eq_or_imp, forall_eq, implies_true, Nat.zero_add, Nat.reduceAdd, and_assoc, upd_listA, upd_mapA, upd_bun, upd_fam, ptb_listA, factsP_listA, factsP_mapA, ptb_mapA, Nat.mul_one, factsP_bun, ptb_bun, ptb_fam, factsP_fam] at cs
      go_wp2_with fail
      go_ret
      exact ⟨by rw [HR.out]; rfl, O⟩
    | some fb =>
      have he : e ≠ 0 := fun x => by have := hq.2 x; simp at this
      have EQ : ∀ W, (binOp .eql 25 (.iface 92 (.pointer (some ⟨fb, 0, none⟩))) .nilIface).run Try.prog W = .ok (.bool false) W := fun W => by kernel_rfl
      clear h
      simp only [errV]
      have HE := Lib.hid he
      clear he hq
      go_enter Try.func15, Try.ntmps15
      have cs := O.facts
      try simp only [factsP, cellsP, roomP, foots_cons, foots_nil, foots_append, foot_pt, ptb, ptb_mapA, foot_mapA, factsP_mapA, foot_bun, List.append_nil, List.nil_append, List.cons_append, List.nodup_cons, List.nodup_nil, List.mem_cons, List.not_mem_nil, List.mem_singleton, List.forall_mem_cons, not_or, not_false_eq_true, and_true, true_and, or_false, false_or, forall_eq_or_imp, forall_eq, implies_true, Nat.zero_add, Nat.reduceAdd, and_assoc, upd_listA, upd_mapA, upd_bun, upd_fam, ptb_listA, factsP_listA, factsP_mapA, ptb_mapA, Nat.mul_one, factsP_bun, ptb_bun, ptb_fam, factsP_fam] at cs
      go_wp2_with fail
      go_ret
      exact ⟨by rw [HR.out]; simp [toldB, HE.out], O⟩
  · have he2 : (e' == 0) = false := by simpa using he'
    cases q with
    | none =>
      have he := hq.1 rfl
      subst he
      have TA : ∀ W, (Instr.typeAssert .nilIface 25 92 true).run Try.prog W = .ok (.tuple #[.pointer none, .bool false]) W := fun W => by kernel_rfl
      clear h
      simp only [errV]
      have HE := Lib.hid he'
      clear he' hq
      go_enter Try.func15, Try.ntmps15
      have cs := O.facts
      try simp only [factsP, cellsP, roomP, foots_cons, foots_nil, foots_append, foot_pt, ptb, ptb_mapA, foot_mapA, factsP_mapA, foot_bun, List.append_nil, List.nil_append, List.cons_append, List.nodup_cons, List.nodup_nil, List.mem_cons, List.not_mem_nil, List.mem_singleton, List.forall_mem_cons, not_or, not_false_eq_true, and_true, true_and, or_false, false_or, forall_eq_or_imp, forall_eq, implies_true, Nat.zero_add, Nat.reduceAdd, and_assoc, upd_listA, upd_mapA, upd_bun, upd_fam, ptb_listA, factsP_listA, factsP_mapA, ptb_mapA, Nat.mul_one, factsP_bun, ptb_bun, ptb_fam, factsP_fam] at cs
      go_wp2_with fail
      go_ret
      exact ⟨by rw [HR.out]; simp [toldB, HE.out]; exact fun x => absurd x.symm HE.out, O⟩
    | some fb =>
      have TA : ∀ W, (Instr.typeAssert (.iface 92 (.pointer (some ⟨fb, 0, none⟩))) 25 92 true).run Try.prog W = .ok (.tuple #[.pointer (some ⟨fb, 0, none⟩), .bool true]) W := fun W => by kernel_rfl
      have EQ : ∀ W, (binOp .eql 25 (.iface 49 (.int .i64 e)) (.iface 49 (.int .i64 e'))).run Try.prog W = .ok (.bool (e == e')) W := fun W => by kernel_rfl
      have CU := Lib.hid (fun W (hW : Pre W [errA (some fb) e of]) => f_Unwrap W fb e of hW)
      have H2 := Lib.hid (show Pre w [.pt fb [.int .i64 e, .string of] 95] by have := (Mem.open_ h).preAll; simpa [errL] using this)
      clear h
      simp only [errV]
      have HE := Lib.hid he'
      clear he' hq
      skip
      go_enter Try.func15, Try.ntmps15
      by_cases h1 : e = e'
      · subst h1
        have EQ2 := EQ
        simp only [BEq.rfl] at EQ2
        clear EQ
        by_cases h2 : of.toList = of'.toList
        · have h3 : (of.toList == of'.toList) = true := by simpa using h2
          have cs := O.facts
          try simp only [factsP, cellsP, roomP, foots_cons, foots_nil, foots_append, foot_pt, ptb, ptb_mapA, foot_mapA, factsP_mapA, foot_bun, List.append_nil, List.nil_append, List.cons_append, List.nodup_cons, List.nodup_nil, List.mem_cons, List.not_mem_nil, List.mem_singleton, List.forall_mem_cons, not_or, not_false_eq_true, and_true, true_and, or_false, false_or, forall_eq_or_imp, forall_eq, implies_true, Nat.zero_add, Nat.reduceAdd, and_assoc, upd_listA, upd_mapA, upd_bun, upd_fam, ptb_listA, factsP_listA, factsP_mapA, ptb_mapA, Nat.mul_one, factsP_bun, ptb_bun, ptb_fam, factsP_fam] at cs
          have v1 := (H2.out.view O.fr).facts
          try simp only [cellsQ, roomP, and_assoc, and_true, true_and, Nat.add_zero, Nat.zero_add, Nat.reduceAdd, factsP, cellsP, roomP, foots_cons, foots_nil, foots_append, foot_pt, ptb, ptb_mapA, foot_mapA, factsP_mapA, foot_bun, List.append_nil, List.nil_append, List.cons_append, List.nodup_cons, List.nodup_nil, List.mem_cons, List.not_mem_nil, List.mem_singleton, List.forall_mem_cons, not_or, not_false_eq_true, and_true, true_and, or_false, false_or, forall_eq_or_imp, forall_eq, implies_true, Nat.zero_add, Nat.reduceAdd, and_assoc, upd_listA, upd_mapA, upd_bun, upd_fam, ptb_listA, factsP_listA, factsP_mapA, ptb_mapA, Nat.mul_one, factsP_bun, ptb_bun, ptb_fam, factsP_fam] at v1
          go_wp2_with fail
          refine (CU.out _ (HH.out.view O.fr)).mono ?_
          rintro e w2 ⟨rfl, o⟩
          replace O := O.callp [] o
          clear o
          simp only [put, List.cons_append, List.nil_append] at O
          have cs := O.facts
          try simp only [factsP, cellsP, roomP, foots_cons, foots_nil, foots_append, foot_pt, ptb, ptb_mapA, foot_mapA, factsP_mapA, foot_bun, List.append_nil, List.nil_append, List.cons_append, List.nodup_cons, List.nodup_nil, List.mem_cons, List.not_mem_nil, List.mem_singleton, List.forall_mem_cons, not_or, not_false_eq_true, and_true, true_and, or_false, false_or, forall_eq_or_imp, forall_eq, implies_true, Nat.zero_add, Nat.reduceAdd, and_assoc, upd_listA, upd_mapA, upd_bun, upd_fam, ptb_listA, factsP_listA, factsP_mapA, ptb_mapA, Nat.mul_one, factsP_bun, ptb_bun, ptb_fam, factsP_fam] at cs
          have v1 := (H2.out.view O.fr).facts
          try simp only [cellsQ, roomP, and_assoc, and_true, true_and, Nat.add_zero, Nat.zero_add, Nat.reduceAdd, factsP, cellsP, roomP, foots_cons, foots_nil, foots_append, foot_pt, ptb, ptb_mapA, foot_mapA, factsP_mapA, foot_bun, List.append_nil, List.nil_append, List.cons_append, List.nodup_cons, List.nodup_nil, List.mem_cons, List.not_mem_nil, List.mem_singleton, List.forall_mem_cons, not_or, not_false_eq_true, and_true, true_and, or_false, false_or, forall_eq_or_imp, forall_eq, implies_true, Nat.zero_add, Nat.reduceAdd, and_assoc, upd_listA, upd_mapA, upd_bun, upd_fam, ptb_listA, factsP_listA, factsP_mapA, ptb_mapA, Nat.mul_one, factsP_bun, ptb_bun, ptb_fam, factsP_fam] at v1
          go_wp2_with fail
          go_ret
          exact ⟨by rw [HR.out]; simp [toldB, HE.out, h2], O⟩
        · have h3 : (of.toList == of'.toList) = false := by simpa using h2
          have cs := O.facts
          try simp only [factsP, cellsP, roomP, foots_cons, foots_nil, foots_append, foot_pt, ptb, ptb_mapA, foot_mapA, factsP_mapA, foot_bun, List.append_nil, List.nil_append, List.cons_append, List.nodup_cons, List.nodup_nil, List.mem_cons, List.not_mem_nil, List.mem_singleton, List.forall_mem_cons, not_or, not_false_eq_true, and_true, true_and, or_false, false_or, forall_eq_or_imp, forall_eq, implies_true, Nat.zero_add, Nat.reduceAdd, and_assoc, upd_listA, upd_mapA, upd_bun, upd_fam, ptb_listA, factsP_listA, factsP_mapA, ptb_mapA, Nat.mul_one, factsP_bun, ptb_bun, ptb_fam, factsP_fam] at cs
          have v1 := (H2.out.view O.fr).facts
          try simp only [cellsQ, roomP, and_assoc, and_true, true_and, Nat.add_zero, Nat.zero_add, Nat.reduceAdd, factsP, cellsP, roomP, foots_cons, foots_nil, foots_append, foot_pt, ptb, ptb_mapA, foot_mapA, factsP_mapA, foot_bun, List.append_nil, List.nil_append, List.cons_append, List.nodup_cons, List.nodup_nil, List.mem_cons, List.not_mem_nil, List.mem_singleton, List.forall_mem_cons, not_or, not_false_eq_true, and_true, true_and, or_false, false_or, forall_eq_or_imp, forall_eq, implies_true, Nat.zero_add, Nat.reduceAdd, and_assoc, upd_listA, upd_mapA, upd_bun, upd_fam, ptb_listA, factsP_listA, factsP_mapA, ptb_mapA, Nat.mul_one, factsP_bun, ptb_bun, ptb_fam, factsP_fam] at v1
          go_wp2_with fail
          go_ret
          exact ⟨by rw [HR.out]; simp [toldB, HE.out, h2], O⟩
      · have h3 : (e == e') = false := by simpa using h1
        have cs := O.facts
        try simp only [factsP, cellsP, roomP, foots_cons, foots_nil, foots_append, foot_pt, ptb, ptb_mapA, foot_mapA, factsP_mapA, foot_bun, List.append_nil, List.nil_append, List.cons_append, List.nodup_cons, List.nodup_nil, List.mem_cons, List.not_mem_nil, List.mem_singleton, List.forall_mem_cons, not_or, not_false_eq_true, and_true, true_and, or_false, false_or, forall_eq_or_imp, forall_eq, implies_true, Nat.zero_add, Nat.reduceAdd, and_assoc, upd_listA, upd_mapA, upd_bun, upd_fam, ptb_listA, factsP_listA, factsP_mapA, ptb_mapA, Nat.mul_one, factsP_bun, ptb_bun, ptb_fam, factsP_fam] at cs
        have v1 := (H2.out.view O.fr).facts
        try simp only [cellsQ, roomP, and_assoc, and_true, true_and, Nat.add_zero, Nat.zero_add, Nat.reduceAdd, factsP, cellsP, roomP, foots_cons, foots_nil, foots_append, foot_pt, ptb, ptb_mapA, foot_mapA, factsP_mapA, foot_bun, List.append_nil, List.nil_append, List.cons_append, List.nodup_cons, List.nodup_nil, List.mem_cons, List.not_mem_nil, List.mem_singleton, List.forall_mem_cons, not_or, not_false_eq_true, and_true, true_and, or_false, false_or, forall_eq_or_imp, forall_eq, implies_true, Nat.zero_add, Nat.reduceAdd, and_assoc, upd_listA, upd_mapA, upd_bun, upd_fam, ptb_listA, factsP_listA, factsP_mapA, ptb_mapA, Nat.mul_one, factsP_bun, ptb_bun, ptb_fam, factsP_fam] at v1
        go_wp2_with fail
        go_ret
        exact ⟨by rw [HR.out]; simp [toldB, HE.out, h1], O⟩
set_option maxRecDepth 100000 in
theorem s_open (w : World) (S : SesH) (done : Bool) (ls : List LogM) (h : Pre w (sesL S done ls)) : Calls Try.prog 26 #[S.val] w (fun r w' => r = .returned (.int .i64 (if done then 201 else 0)) ∧ Mem w [] w' []) := by
  have H := Lib.hid h
  have O : Mem w [] w [] := Mem.begin
  clear h
  simp only [sesL] at H
  simp only [SesH.val]
  skip
  go_enter Try.func26, Try.ntmps26
  cases done
  · have cs := O.facts
    try simp only [factsP, cellsP, roomP, foots_cons, foots_nil, foots_append, foot_pt, ptb, ptb_mapA, foot_mapA, factsP_mapA, foot_bun, List.append_nil, List.nil_append, List.cons_append, List.nodup_cons, List.nodup_nil, List.mem_cons, List.not_mem_nil, List.mem_singleton, List.forall_mem_cons, not_or, not_false_eq_true, and_true, true_and, or_false, false_or, forall_eq_or_imp, forall_eq, implies_true, Nat.zero_add, Nat.reduceAdd, and_assoc, upd_listA, upd_mapA, upd_bun, upd_fam, ptb_listA, factsP_listA, factsP_mapA, ptb_mapA, Nat.mul_one, factsP_bun, ptb_bun, ptb_fam, factsP_fam] at cs
    have v1 := (H.out.view O.fr).facts
    try simp only [cellsQ, roomP, and_assoc, and_true, true_and, Nat.add_zero, Nat.zero_add, Nat.reduceAdd, factsP, cellsP, roomP, foots_cons, foots_nil, foots_append, foot_pt, ptb, ptb_mapA, foot_mapA, factsP_mapA, foot_bun, List.append_nil, List.nil_append, List.cons_append, List.nodup_cons, List.nodup_nil, List.mem_cons, List.not_mem_nil, List.mem_singleton, List.forall_mem_cons, not_or, not_false_eq_true, and_true, true_and, or_false, false_or, forall_eq_or_imp, forall_eq, implies_true, Nat.zero_add, Nat.reduceAdd, and_assoc, upd_listA, upd_mapA, upd_bun, upd_fam, ptb_listA, factsP_listA, factsP_mapA, ptb_mapA, Nat.mul_one, factsP_bun, ptb_bun, ptb_fam, factsP_fam] at v1
    go_wp2_with fail
    go_ret
    exact ⟨rfl, O⟩
  · have cs := O.facts
    try simp only [factsP, cellsP, roomP, foots_cons, foots_nil, foots_append, foot_pt, ptb, ptb_mapA, foot_mapA, factsP_mapA, foot_bun, List.append_nil, List.nil_append, List.cons_append, List.nodup_cons, List.nodup_nil, List.mem_cons, List.not_mem_nil, List.mem_singleton, List.forall_mem_cons, not_or, not_false_eq_true, and_true, true_and, or_false, false_or, forall_eq_or_imp, forall_eq, implies_true, Nat.zero_add, Nat.reduceAdd, and_assoc, upd_listA, upd_mapA, upd_bun, upd_fam, ptb_listA, factsP_listA, factsP_mapA, ptb_mapA, Nat.mul_one, factsP_bun, ptb_bun, ptb_fam, factsP_fam] at cs
    have v1 := (H.out.view O.fr).facts
    try simp only [cellsQ, roomP, and_assoc, and_true, true_and, Nat.add_zero, Nat.zero_add, Nat.reduceAdd, factsP, cellsP, roomP, foots_cons, foots_nil, foots_append, foot_pt, ptb, ptb_mapA, foot_mapA, factsP_mapA, foot_bun, List.append_nil, List.nil_append, List.cons_append, List.nodup_cons, List.nodup_nil, List.mem_cons, List.not_mem_nil, List.mem_singleton, List.forall_mem_cons, not_or, not_false_eq_true, and_true, true_and, or_false, false_or, forall_eq_or_imp, forall_eq, implies_true, Nat.zero_add, Nat.reduceAdd, and_assoc, upd_listA, upd_mapA, upd_bun, upd_fam, ptb_listA, factsP_listA, factsP_mapA, ptb_mapA, Nat.mul_one, factsP_bun, ptb_bun, ptb_fam, factsP_fam] at v1
    go_wp2_with fail
    go_ret
    exact ⟨rfl, O⟩
set_option maxRecDepth 100000 in
theorem s_open_nil (w : World) : Calls Try.prog 26 #[.pointer none] w (fun r w' => r = .returned (.int .i64 1) ∧ Mem w [] w' []) := by
  skip
  have O : Mem w [] w [] := Mem.begin
  go_enter Try.func26, Try.ntmps26
  have cs := O.facts
  try simp only [factsP, cellsP, roomP, foots_cons, foots_nil, foots_append, foot_pt, ptb, ptb_mapA, foot_mapA, factsP_mapA, foot_bun, List.append_nil, List.nil_append, List.cons_append, List.nodup_cons, List.nodup_nil, List.mem_cons, List.not_mem_nil, List.mem_singleton, List.forall_mem_cons, not_or, not_false_eq_true, and_true, true_and, or_false, false_or, forall_eq_or_imp, forall_eq, implies_true, Nat.zero_add, Nat.reduceAdd, and_assoc, upd_listA, upd_mapA, upd_bun, upd_fam, ptb_listA, factsP_listA, factsP_mapA, ptb_mapA, Nat.mul_one, factsP_bun, ptb_bun, ptb_fam, factsP_fam] at cs
  go_wp2_with fail
  go_ret
  exact ⟨rfl, O⟩
set_option maxRecDepth 100000 in
theorem s_State (w : World) (S : SesH) (done : Bool) (ls : List LogM) (h : Pre w (sesL S done ls)) : Calls Try.prog 17 #[S.val] w (fun r w' => r = .returned (.int .i64 (if done then 1 else 0)) ∧ Mem w [] w' []) := by
  have H := Lib.hid h
  have O : Mem w [] w [] := Mem.begin
  clear h
  simp only [sesL] at H
  simp only [SesH.val]
  skip
  go_enter Try.func17, Try.ntmps17
  cases done
  · have cs := O.facts
    try simp only [factsP, cellsP, roomP, foots_cons, foots_nil, foots_append, foot_pt, ptb, ptb_mapA, foot_mapA, factsP_mapA, foot_bun, List.append_nil, List.nil_append, List.cons_append, List.nodup_cons, List.nodup_nil, List.mem_cons, List.not_mem_nil, List.mem_singleton, List.forall_mem_cons, not_or, not_false_eq_true, and_true, true_and, or_false, false_or, forall_eq_or_imp, forall_eq, implies_true, Nat.zero_add, Nat.reduceAdd, and_assoc, upd_listA, upd_mapA, upd_bun, upd_fam, ptb_listA, factsP_listA, factsP_mapA, ptb_mapA, Nat.mul_one, factsP_bun, ptb_bun, ptb_fam, factsP_fam] at cs
    have v1 := (H.out.view O.fr).facts
    try simp only [cellsQ, roomP, and_assoc, and_true, true_and, Nat.add_zero, Nat.zero_add, Nat.reduceAdd, factsP, cellsP, roomP, foots_cons, foots_nil, foots_append, foot_pt, ptb, ptb_mapA, foot_mapA, factsP_mapA, foot_bun, List.append_nil, List.nil_append, List.cons_append, List.nodup_cons, List.nodup_nil, List.mem_cons, List.not_mem_nil, List.mem_singleton, List.forall_mem_cons, not_or, not_false_eq_true, and_true, true_and, or_false, false_or, forall_eq_or_imp, forall_eq, implies_true, Nat.zero_add, Nat.reduceAdd, and_assoc, upd_listA, upd_mapA, upd_bun, upd_fam, ptb_listA, factsP_listA, factsP_mapA, ptb_mapA, Nat.mul_one, factsP_bun, ptb_bun, ptb_fam, factsP_fam] at v1
    go_wp2_with fail
    go_ret
    exact ⟨rfl, O⟩
  · have cs := O.facts
    try simp only [factsP, cellsP, roomP, foots_cons, foots_nil, foots_append, foot_pt, ptb, ptb_mapA, foot_mapA, factsP_mapA, foot_bun, List.append_nil, List.nil_append, List.cons_append, List.nodup_cons, List.nodup_nil, List.mem_cons, List.not_mem_nil, List.mem_singleton, List.forall_mem_cons, not_or, not_false_eq_true, and_true, true_and, or_false, false_or, forall_eq_or_imp, forall_eq, implies_true, Nat.zero_add, Nat.reduceAdd, and_assoc, upd_listA, upd_mapA, upd_bun, upd_fam, ptb_listA, factsP_listA, factsP_mapA, ptb_mapA, Nat.mul_one, factsP_bun, ptb_bun, ptb_fam, factsP_fam] at cs
    have v1 := (H.out.view O.fr).facts
    try simp only [cellsQ, roomP, and_assoc, and_true, true_and, Nat.add_zero, Nat.zero_add, Nat.reduceAdd, factsP, cellsP, roomP, foots_cons, foots_nil, foots_append, foot_pt, ptb, ptb_mapA, foot_mapA, factsP_mapA, foot_bun, List.append_nil, List.nil_append, List.cons_append, List.nodup_cons, List.nodup_nil, List.mem_cons, List.not_mem_nil, List.mem_singleton, List.forall_mem_cons, not_or, not_false_eq_true, and_true, true_and, or_false, false_or, forall_eq_or_imp, forall_eq, implies_true, Nat.zero_add, Nat.reduceAdd, and_assoc, upd_listA, upd_mapA, upd_bun, upd_fam, ptb_listA, factsP_listA, factsP_mapA, ptb_mapA, Nat.mul_one, factsP_bun, ptb_bun, ptb_fam, factsP_fam] at v1
    go_wp2_with fail
    go_ret
    exact ⟨rfl, O⟩
set_option maxRecDepth 100000 in
theorem s_State_nil (w : World) : Calls Try.prog 17 #[.pointer none] w (fun r w' => r = .returned (.int .i64 0) ∧ Mem w [] w' []) := by
  skip
  have O : Mem w [] w [] := Mem.begin
  go_enter Try.func17, Try.ntmps17
  have cs := O.facts
  try simp only [factsP, cellsP, roomP, foots_cons, foots_nil, foots_append, foot_pt, ptb, ptb_mapA, foot_mapA, factsP_mapA, foot_bun, List.append_nil, List.nil_append, List.cons_append, List.nodup_cons, List.nodup_nil, List.mem_cons, List.not_mem_nil, List.mem_singleton, List.forall_mem_cons, not_or, not_false_eq_true, and_true, true_and, or_false, false_or, forall_eq_or_imp, forall_eq, implies_true, Nat.zero_add, Nat.reduceAdd, and_assoc, upd_listA, upd_mapA, upd_bun, upd_fam, ptb_listA, factsP_listA, factsP_mapA, ptb_mapA, Nat.mul_one, factsP_bun, ptb_bun, ptb_fam, factsP_fam] at cs
  go_wp2_with fail
  go_ret
  exact ⟨rfl, O⟩
def hasB (ls : List LogM) (b : Int) : Bool := ls.any (fun E => decide (E.bucket = b))
theorem hasB_get (ls : List LogM) (b : Int) : (mget (ls.map lgPtr) b).isSome = hasB ls b := by
  induction ls with
  | nil => rfl
  | cons E ls ih =>
    rw [List.map_cons, mget_cons]
    unfold hasB at *
    rw [List.any_cons, ← ih]
    by_cases h : E.bucket = b <;> simp [lgPtr, h]
set_option maxRecDepth 100000 in
theorem s_Has (w : World) (S : SesH) (done : Bool) (ls : List LogM) (b : Int) (hb : (Lit.int .i64 b).wf = true) (h : Pre w (sesL S done ls)) : Calls Try.prog 10 #[S.val, .int .i64 b] w (fun r w' => r = .returned (.bool (hasB ls b)) ∧ Mem w [] w' []) := by
  have H := Lib.hid h
  have O : Mem w [] w [] := Mem.begin
  clear h
  rw [← hasB_get]
  have LK := Lib.hid (fun W (hW : MapAt intK ptrV W S.lb (ls.map lgPtr)) => look_log hW hb)
  simp only [sesL] at H
  simp only [SesH.val]
  cases hm : mget (ls.map lgPtr) b with
  | none =>
    rw [hm] at LK
    simp only [Option.map_none, Option.getD_none] at LK
    skip
    go_enter Try.func10, Try.ntmps10
    have cs := O.facts
    try simp only [factsP, cellsP, roomP, foots_cons, foots_nil, foots_append, foot_pt, ptb, ptb_mapA, foot_mapA, factsP_mapA, foot_bun, List.append_nil, List.nil_append, List.cons_append, List.nodup_cons, List.nodup_nil, List.mem_cons, List.not_mem_nil, List.mem_singleton, List.forall_mem_cons, not_or, not_false_eq_true, and_true, true_and, or_false, false_or, forall_eq_or_imp, forall_eq, implies_true, Nat.zero_add, Nat.reduceAdd, and_assoc, upd_listA, upd_mapA, upd_bun, upd_fam, ptb_listA, factsP_listA, factsP_mapA, ptb_mapA, Nat.mul_one, factsP_bun, ptb_bun, ptb_fam, factsP_fam] at cs
    have v1 := (H.out.view O.fr).facts
    try simp only [cellsQ, roomP, and_assoc, and_true, true_and, Nat.add_zero, Nat.zero_add, Nat.reduceAdd, factsP, cellsP, roomP, foots_cons, foots_nil, foots_append, foot_pt, ptb, ptb_mapA, foot_mapA, factsP_mapA, foot_bun, List.append_nil, List.nil_append, List.cons_append, List.nodup_cons, List.nodup_nil, List.mem_cons, List.not_mem_nil, List.mem_singleton, List.forall_mem_cons, not_or, not_false_eq_true, and_true, true_and, or_false, false_or, forall_eq_or_imp, forall_eq, implies_true, Nat.zero_add, Nat.reduceAdd, and_assoc, upd_listA, upd_mapA, upd_bun, upd_fam, ptb_listA, factsP_listA, factsP_mapA, ptb_mapA, Nat.mul_one, factsP_bun, ptb_bun, ptb_fam, factsP_fam] at v1
    have v2 := (LK.out _ ((H.out.view O.fr).map (κ := intK) (vv := ptrV) (by simp)))
    try simp only [cellsQ, roomP, and_assoc, and_true, true_and, Nat.add_zero, Nat.zero_add, Nat.reduceAdd, factsP, cellsP, roomP, foots_cons, foots_nil, foots_append, foot_pt, ptb, ptb_mapA, foot_mapA, factsP_mapA, foot_bun, List.append_nil, List.nil_append, List.cons_append, List.nodup_cons, List.nodup_nil, List.mem_cons, List.not_mem_nil, List.mem_singleton, List.forall_mem_cons, not_or, not_false_eq_true, and_true, true_and, or_false, false_or, forall_eq_or_imp, forall_eq, implies_true, Nat.zero_add, Nat.reduceAdd, and_assoc, upd_listA, upd_mapA, upd_bun, upd_fam, ptb_listA, factsP_listA, factsP_mapA, ptb_mapA, Nat.mul_one, factsP_bun, ptb_bun, ptb_fam, factsP_fam] at v2
    go_wp2_with fail
    go_ret
    exact ⟨rfl, O⟩
  | some x =>
    rw [hm] at LK
    simp only [Option.map_some, Option.getD_some, ptrV] at LK
    skip
    go_enter Try.func10, Try.ntmps10
    have cs := O.facts
    try simp only [factsP, cellsP, roomP, foots_cons, foots_nil, foots_append, foot_pt, ptb, ptb_mapA, foot_mapA, factsP_mapA, foot_bun, List.append_nil, List.nil_append, List.cons_append, List.nodup_cons, List.nodup_nil, List.mem_cons, List.not_mem_nil, List.mem_singleton, List.forall_mem_cons, not_or, not_false_eq_true, and_true, true_and, or_false, false_or, forall_eq_or_imp, forall_eq, implies_true, Nat.zero_add, Nat.reduceAdd, and_assoc, upd_listA, upd_mapA, upd_bun, upd_fam, ptb_listA, factsP_listA, factsP_mapA, ptb_mapA, Nat.mul_one, factsP_bun, ptb_bun, ptb_fam, factsP_fam] at cs
    have v1 := (H.out.view O.fr).facts
    try simp only [cellsQ, roomP, and_assoc, and_true, true_and, Nat.add_zero, Nat.zero_add, Nat.reduceAdd, factsP, cellsP, roomP, foots_cons, foots_nil, foots_append, foot_pt, ptb, ptb_mapA, foot_mapA, factsP_mapA, foot_bun, List.append_nil, List.nil_append, List.cons_append, List.nodup_cons, List.nodup_nil, List.mem_cons, List.not_mem_nil, List.mem_singleton, List.forall_mem_cons, not_or, not_false_eq_true, and_true, true_and, or_false, false_or, forall_eq_or_imp, forall_eq, implies_true, Nat.zero_add, Nat.reduceAdd, and_assoc, upd_listA, upd_mapA, upd_bun, upd_fam, ptb_listA, factsP_listA, factsP_mapA, ptb_mapA, Nat.mul_one, factsP_bun, ptb_bun, ptb_fam, factsP_fam] at v1
    have v2 := (LK.out _ ((H.out.view O.fr).map (κ := intK) (vv := ptrV) (by simp)))
    try simp only [cellsQ, roomP, and_assoc, and_true, true_and, Nat.add_zero, Nat.zero_add, Nat.reduceAdd, factsP, cellsP, roomP, foots_cons, foots_nil, foots_append, foot_pt, ptb, ptb_mapA, foot_mapA, factsP_mapA, foot_bun, List.append_nil, List.nil_append, List.cons_append, List.nodup_cons, List.nodup_nil, List.mem_cons, List.not_mem_nil, List.mem_singleton, List.forall_mem_cons, not_or, not_false_eq_true, and_true, true_and, or_false, false_or, forall_eq_or_imp, forall_eq, implies_true, Nat.zero_add, Nat.reduceAdd, and_assoc, upd_listA, upd_mapA, upd_bun, upd_fam, ptb_listA, factsP_listA, factsP_mapA, ptb_mapA, Nat.mul_one, factsP_bun, ptb_bun, ptb_fam, factsP_fam] at v2
    go_wp2_with fail
    go_ret
    exact ⟨rfl, O⟩
set_option maxRecDepth 100000 in
theorem s_Has_nil (w : World) (b : Int) : Calls Try.prog 10 #[.pointer none, .int .i64 b] w (fun r w' => r = .returned (.bool false) ∧ Mem w [] w' []) := by
  skip
  have O : Mem w [] w [] := Mem.begin
  go_enter Try.func10, Try.ntmps10
  have cs := O.facts
  try simp only [factsP, cellsP, roomP, foots_cons, foots_nil, foots_append, foot_pt, ptb, ptb_mapA, foot_mapA, factsP_mapA, foot_bun, List.append_nil, List.nil_append, List.cons_append, List.nodup_cons, List.nodup_nil, List.mem_cons, List.not_mem_nil, List.mem_singleton, List.forall_mem_cons, not_or, not_false_eq_true, and_true, true_and, or_false, false_or, forall_eq_or_imp, forall_eq, implies_true, Nat.zero_add, Nat.reduceAdd, and_assoc, upd_listA, upd_mapA, upd_bun, upd_fam, ptb_listA, factsP_listA, factsP_mapA, ptb_mapA, Nat.mul_one, factsP_bun, ptb_bun, ptb_fam, factsP_fam] at cs
  go_wp2_with fail
  go_ret
  exact ⟨rfl, O⟩
end Go.Proofs.Ytomcekjhehceoaa
