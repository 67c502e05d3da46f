/- WALKS: a manager in memory; New; what Know makes: a learner for each vote that counts. -/
import Derived.Test.YtplliabmnhigbaaEach19
set_option linter.unusedVariables false
set_option linter.unusedSimpArgs false
namespace Go.Tk
open Go.RowKit
section
variable {P : Program} {kt : TypeId} {K V : Type} [DecidableEq K] {κ : KeyTy P kt K} {vv : V → Value} {w0 w w' : World} {F : List Nat} {L : List Asn} {b : Nat} {m m' : List (K × V)}
/-- 'm[k] = v' at an operation of a region that draws -/
theorem if_mapUpdate_mem {ops : Array Oper} {o : Oper} {a : Act} {K' : Act → World → Prop} {Q : Exit → Act → World → Prop} (h : Mem w0 F w (mapA κ vv b m :: L)) (hg : o.guard = none) (mo x v : Operand) (t : TypeId) (hop : o.op = Op.mapUpdate t mo x v) {e : TypeId} (ht : P.underlying t = some (.map kt e))
    (hm : a.eval mo = .map (some b)) (k : K) (hk : κ.ok k) (u : V) (hx : a.eval x = κ.kv k) (hv : a.eval v = vv u)
    (hK : ∀ w', Mem w0 F w' (mapA κ vv b (mset m k u) :: L) → K' (a.put o.dst undef) w') : if Region.wanted o (yielded ops a.tmps) = true then o.wp P a w K' Q else K' (a.put o.dst undef) w := by
  rw [if_pos (by simp [Region.wanted, hg])]
  have hat : MapAt κ vv w b m := h.map (by simp)
  obtain ⟨es, c, hrun, r1⟩ := hat.update ht hk u
  unfold Oper.wp
  simp [execOp, hop, hm, hx, hv, hrun, Result.andThen]
  exact hK _ (Mem.write (A' := mapA κ vv b (mset m k u)) h ⟨setMap_os.1, setMap_os.2.1, setMap_os.2.2, by rw [size_setMap]; omega, fun k _ hk => heap_setMap_other (by simpa [Asn.foot, mapA] using hk)⟩ size_setMap r1 rfl)
variable {α : Type} {f : α → Asn} {l : List α} {k : Nat} {a a' : α}
/-- a family of parts: one for each thing of a list -/
def fam (f : α → Asn) (l : List α) : Asn := bun (l.map f)
theorem factsP_fam : factsP w (fam f l :: L) = factsP w L := rfl
theorem ptb_fam : ptb (fam f l :: L) = ptb L := rfl
theorem upd_fam {b j : Nat} {v : Value} : upd (fam f l :: L) b j v = fam f l :: upd L b j v := rfl
theorem perm_erase : ∀ {l : List α} {k : Nat}, l[k]? = some a → l.Perm (a :: l.eraseIdx k)
  | [], _, h => by simp at h
  | x :: l, 0, h => by
    simp only [List.getElem?_cons_zero, Option.some.injEq] at h
    subst h
    exact List.Perm.refl _
  | x :: l, k + 1, h => by
    simp only [List.getElem?_cons_succ] at h
    exact ((perm_erase h).cons x).trans (List.Perm.swap _ _ _)
theorem Mem.famTake (h : Mem w0 F w (fam f l :: L)) (hk : l[k]? = some a) : Mem w0 F w (f a :: fam f (l.eraseIdx k) :: L) := by
  have h1 := Mem.open_ h
  have h2 : Mem w0 F w ((l.eraseIdx k).map f ++ (f a :: L)) := h1.perm (by
    refine (((perm_erase hk).map f).append_right L).trans ?_
    rw [List.map_cons, List.cons_append]
    exact List.perm_middle.symm)
  exact (Mem.shut h2).perm (List.Perm.swap _ _ _)
theorem eraseIdx_set (l : List α) (k : Nat) (a' : α) : (l.set k a').eraseIdx k = l.eraseIdx k := by
  induction l generalizing k with
  | nil => rfl
  | cons x l ih => cases k with
    | zero => rfl
    | succ k => simp [ih]
theorem Mem.famPut (h : Mem w0 F w (f a' :: fam f (l.eraseIdx k) :: L)) (hk : k < l.length) : Mem w0 F w (fam f (l.set k a') :: L) := by
  have hk' : (l.set k a')[k]? = some a' := by rw [List.getElem?_set, if_pos rfl, if_pos hk]
  have h1 := Mem.open_ (h.perm (List.Perm.swap _ _ _))
  refine Mem.shut (l := (l.set k a').map f) (h1.perm ?_)
  have h2 := ((perm_erase hk').map f).append_right L
  rw [eraseIdx_set, List.map_cons, List.cons_append] at h2
  exact List.perm_middle.trans h2.symm
theorem Mem.famNil (h : Mem w0 F w L) : Mem w0 F w (fam f [] :: L) := Mem.shut (l := []) h
theorem Mem.famSnoc (h : Mem w0 F w (f a :: fam f l :: L)) : Mem w0 F w (fam f (l ++ [a]) :: L) := by
  have h1 := Mem.open_ (h.perm (List.Perm.swap _ _ _))
  refine Mem.shut (l := (l ++ [a]).map f) (h1.perm ?_)
  rw [List.map_append, List.append_assoc]
  exact List.Perm.refl _
end
theorem factsP_bun {w : World} {l L : List Asn} : factsP w (bun l :: L) = factsP w L := rfl
theorem ptb_bun {l L : List Asn} : ptb (bun l :: L) = ptb L := rfl
theorem cutX0 {G : Prop} {α : Type} (T : α → World → Prop) (main : Hid (∀ x w, T x w) → G) (tail : ∀ x w, T x w) : G := main (Lib.hid tail)
theorem cutX1 {G : Prop} {α : Type} (T : α → Nat → World → Prop) (main : Hid (∀ x p w, T x p w) → G) (tail : ∀ x p w, T x p w) : G := main (Lib.hid tail)
theorem cutX2 {G : Prop} {α : Type} (T : α → Nat → Nat → World → Prop) (main : Hid (∀ x p q w, T x p q w) → G) (tail : ∀ x p q w, T x p q w) : G := main (Lib.hid tail)
end Go.Tk
namespace Go.Proofs.Ytplliabmnhigbaa
open Go.RowKit Go.Tk
def ptrV (b : Nat) : Value := .pointer (some ⟨b, 0, none⟩)
def u64Cells (i : Int) : List Value := [.int .u64 i]
theorem u64Ty : ElTy Try.prog 66 22 1 u64Cells 0 := ⟨Try.underlying66, by kernel_rfl, by kernel_rfl, by omega, fun _ => rfl, fun a u h => by simp [u64Cells] at h; subst h; rfl⟩
abbrev u64K : KeyTy Try.prog 22 Int := intKey Try.underlying22
/-- a learner: its block, its map's, what it knows -/
structure LnM where
  lb : Nat
  mb : Nat
  l : Learn11
def lnF (x : Inst × LnM) : Asn := learnA x.2.lb x.2.mb x.2.l
def lnPtr (x : Inst × LnM) : Inst × Nat := (x.1, x.2.lb)
structure EntM where
  eb : Nat
  lb : Nat
  id : Int
  client : Int
  m0 : Int
  m1 : Int
  m2 : Int
  A : Option Addr
  c : Nat
  s : List ItS
  ls : List (Inst × LnM)
  d : Int
def EntM.cells (E : EntM) : List Value := [.int .u64 E.id, .int .i64 E.client, .int .i64 E.m0, .int .i64 E.m1, .int .i64 E.m2, .slice E.A E.s.length E.c, .map (some E.lb), .int .i64 E.d]
def EntM.parts (E : EntM) : List Asn := [.pt E.eb E.cells 101, txA E.A E.c E.s, mapA instKey ptrV E.lb (E.ls.map lnPtr), fam lnF E.ls]
def entA (E : EntM) : Asn := bun E.parts
theorem factsP_entA {w : World} {L : List Asn} {E : EntM} : factsP w (entA E :: L) = factsP w L := rfl
theorem ptb_entA {L : List Asn} {E : EntM} : ptb (entA E :: L) = ptb L := rfl
def mgrL (mb mp : Nat) (OA : Option Addr) (oc : Nat) (es : List EntM) : List Asn :=
  [.pt mb [.slice OA es.length oc, .map (some mp)] 95, listA 22 1 u64Cells OA oc (es.map (·.id)), mapA u64K ptrV mp (es.map (fun E => (E.id, E.eb))), fam entA es]
def mgrA (mb mp : Nat) (OA : Option Addr) (oc : Nat) (es : List EntM) : Asn := bun (mgrL mb mp OA oc es)
theorem zeroPtrL (w : World) : (zeroValue 105).run Try.prog w = .ok (.pointer none) w := by kernel_rfl
theorem zeroPtrE (w : World) : (zeroValue 98).run Try.prog w = .ok (.pointer none) w := by kernel_rfl
set_option maxRecDepth 100000 in
theorem m_New (w : World) : Calls Try.prog 7 #[] w (fun e w' => ∃ mb mp, e = .returned (.pointer (some ⟨mb, 0, none⟩)) ∧ Mem w [] w' (mgrL mb mp none 0 [])) := by
  have O : Mem w [] w [] := Mem.begin
  have hmm := @run_makeMap Try.prog
  go_enter Try.func7, Try.ntmps7
  go_wp2
  go_ret
  have O2 := (O.newMap (κ := u64K) (vv := ptrV)).alloc [.slice none 0 0, .map (some w.heap.size)] 95
  rw [World.size_alloc] at O2
  refine ⟨_, w.heap.size, rfl, ?_⟩
  have O := (O2.listNil (e := 22) (size := 1) (cs := u64Cells)).famNil (f := entA)
  replace O := ((((O).front [true]).front [false, false, false, true]).front [false, false, true]).front [false, false, false, true]
  simp only [Tk.sel, rst, List.cons_append, List.nil_append] at O
  replace O := O.sel [true, true, true, true]
  simp only [Tk.sel] at O
  exact O
def newLn (x : Inst) (lb mb : Nat) : Inst × LnM := (x, ⟨lb, mb, newL 3⟩)
theorem instWf {id b r : Int} (hid : (Lit.int .u64 id).wf = true) (hb : (Lit.int .i64 b).wf = true) (hr : 0 ≤ r ∧ r < 4) : (⟨id, b, r, 0⟩ : Inst).wf := ⟨hid, hb, by simp [Lit.wf, IntKind.min, IntKind.max, IntKind.signed, IntKind.bits]; omega, by simp [Lit.wf, IntKind.min, IntKind.max, IntKind.signed, IntKind.bits]⟩
theorem visits_mem {id : Int} {s : List ItS} {v : Visit} (h : v ∈ visits id s) : ∃ x, s[v.k]? = some x ∧ v.r < 4 ∧ x.inc v.r ≠ 0 ∧ v.i = ⟨id, x.bucket, v.r, 0⟩ := by
  unfold visits visitsTo at h
  obtain ⟨l, hl, hv⟩ := List.mem_flatten.1 h
  obtain ⟨k, hk, he⟩ := List.mem_filterMap.1 hl
  cases hx : s[k]? with
  | none => rw [hx] at he; simp at he
  | some x =>
    rw [hx] at he
    simp only [Option.map_some, Option.some.injEq] at he
    subst he
    obtain ⟨r, hr, rfl⟩ := List.mem_map.1 hv
    have := List.mem_filter.1 hr
    exact ⟨x, hx, List.mem_range.1 this.1, by simpa using this.2, rfl⟩
set_option maxRecDepth 100000 in
set_option maxHeartbeats 8000000 in
theorem m_know1 (w : World) (vb eb lb : Nat) (id client m0 m1 m2 : Int) (A : Option Addr) (c n : Nat) (d : Int) (m : List (Inst × Nat)) (R : Asn) (k r : Int) (i : Inst) (hi : i.wf)
    (h : Pre w [.pt vb [.pointer (some ⟨eb, 0, none⟩)] 98, .pt eb [.int .u64 id, .int .i64 client, .int .i64 m0, .int .i64 m1, .int .i64 m2, .slice A n c, .map (some lb), .int .i64 d] 101, mapA instKey ptrV lb m, R]) :
    Calls Try.prog 36 #[.int .i64 k, .int .i64 r, i.val, .pointer (some ⟨vb, 0, none⟩)] w (fun e w' => e = .returned (.tuple #[]) ∧ ∃ lb' mb', Mem w (foots [.pt vb [.pointer (some ⟨eb, 0, none⟩)] 98, .pt eb [.int .u64 id, .int .i64 client, .int .i64 m0, .int .i64 m1, .int .i64 m2, .slice A n c, .map (some lb), .int .i64 d] 101, mapA instKey ptrV lb m, R]) w' [.pt vb [.pointer (some ⟨eb, 0, none⟩)] 98, .pt eb [.int .u64 id, .int .i64 client, .int .i64 m0, .int .i64 m1, .int .i64 m2, .slice A n c, .map (some lb), .int .i64 d] 101, mapA instKey ptrV lb (mset m i lb'), R, learnA lb' mb' (newL 3)]) := by
  have O := h
  unfold Pre at O
  clear h
  generalize hfp : foots [.pt vb [.pointer (some ⟨eb, 0, none⟩)] 98, .pt eb [.int .u64 id, .int .i64 client, .int .i64 m0, .int .i64 m1, .int .i64 m2, .slice A n c, .map (some lb), .int .i64 d] 101, mapA instKey ptrV lb m, R] = fp at O ⊢
  clear hfp
  have HI := Lib.hid hi
  have CN := Lib.hid (fun W => lA_New W 3 (by omega))
  clear hi
  obtain ⟨i1, i2, i3, i4⟩ := i
  simp only [Inst.val]
  skip
  go_enter Try.func36, Try.ntmps36
  have cs := O.facts
  try simp only [factsP, cellsP, roomP, foots_cons, foots_nil, foots_append, foot_pt, ptb, ptb_mapA, foot_mapA, factsP_mapA, foot_bun, List.append_nil, List.nil_append, List.cons_append, List.nodup_cons, List.nodup_nil, List.mem_cons, List.not_mem_nil, List.mem_singleton, List.forall_mem_cons, not_or, not_false_eq_true, and_true, true_and, or_false, false_or, forall_eq_or_imp, forall_eq, implies_true, Nat.zero_add, Nat.reduceAdd, and_assoc, upd_listA, upd_datasA, upd_txA, upd_mapA, upd_bun, upd_fam, ptb_listA, factsP_listA, Nat.mul_one, ptb_datasA, factsP_datasA, ptb_txA, factsP_txA, itCells, ptb_fam, factsP_fam, ptb_learnA, factsP_learnA] at cs
  go_upto_region 1 with fail
  first | apply Mem.atCall | apply Mem.atCode | apply Mem.atList
  case h => repeat' (first | (with_reducible exact O) | (with_reducible apply Mem.drew) | (with_reducible apply Mem.drewN) | (with_reducible apply Mem.ext) | (with_reducible apply Mem.alloc) | (with_reducible apply Mem.setCell) | (with_reducible apply Mem.newMap (κ := instKey) (vv := ptrV)) | (simp only [ptb, ptb_upd, foots_cons, List.mem_cons, World.size_alloc, size_ext, World.size_setCell, true_or, or_true, eq_self_iff_true, ptb_listA, ptb_datasA, ptb_txA, ptb_fam, ptb_learnA]))
  case' k =>
    intro w1 O'
    (try clear O)
    have O := O'
    clear O'
    (first | simp only [sel, rst, List.cons_append, List.nil_append, World.size_alloc, size_ext, World.size_setCell, size_setMap, World.size_drew, size_drewN, upd, List.set_cons_zero, List.set_cons_succ, if_true, if_false, reduceIte, not_false_eq_true, ne_lt0, ne_lt1, ne_lt2, ne_lt3, ne_lt4, upd_listA, upd_datasA, upd_txA, upd_mapA, upd_bun, upd_fam, cs] at O | simp only [sel, rst, List.cons_append, List.nil_append, World.size_alloc, size_ext, World.size_setCell, size_setMap, World.size_drew, size_drewN, upd, List.set_cons_zero, List.set_cons_succ, if_true, if_false, reduceIte, not_false_eq_true, ne_lt0, ne_lt1, ne_lt2, ne_lt3, ne_lt4, upd_listA, upd_datasA, upd_txA, upd_mapA, upd_bun, upd_fam] at O | skip)
    (try clear cs)
    (try clear v1)
    (try clear v2)
    (try clear v3)
  generalize w.heap.size = bx at O ⊢
  apply region_held_mem [true, true, true] (by kernel_rfl)
  case O => repeat' (first | (with_reducible exact O) | (with_reducible apply Mem.drew) | (with_reducible apply Mem.drewN) | (with_reducible apply Mem.ext) | (with_reducible apply Mem.alloc) | (with_reducible apply Mem.setCell) | (with_reducible apply Mem.newMap (κ := instKey) (vv := ptrV)) | (simp only [ptb, ptb_upd, foots_cons, List.mem_cons, World.size_alloc, size_ext, World.size_setCell, true_or, or_true, eq_self_iff_true, ptb_listA, ptb_datasA, ptb_txA, ptb_fam, ptb_learnA]))
  case' h =>
    intro wr1 O'
    (try clear O)
    have O := O'
    clear O'
    (first | simp only [sel, rst, List.cons_append, List.nil_append, World.size_alloc, size_ext, World.size_setCell, size_setMap, World.size_drew, size_drewN, upd, List.set_cons_zero, List.set_cons_succ, if_true, if_false, reduceIte, not_false_eq_true, ne_lt0, ne_lt1, ne_lt2, ne_lt3, ne_lt4, upd_listA, upd_datasA, upd_txA, upd_mapA, upd_bun, upd_fam, cs] at O | simp only [sel, rst, List.cons_append, List.nil_append, World.size_alloc, size_ext, World.size_setCell, size_setMap, World.size_drew, size_drewN, upd, List.set_cons_zero, List.set_cons_succ, if_true, if_false, reduceIte, not_false_eq_true, ne_lt0, ne_lt1, ne_lt2, ne_lt3, ne_lt4, upd_listA, upd_datasA, upd_txA, upd_mapA, upd_bun, upd_fam] at O | skip)
    (try clear cs)
    (try clear v1)
    (try clear v2)
    (try clear v3)
  refine takeH (i := 0) (v := ?v1_1) rfl (by kernel_rfl) (by kernel_rfl) (by kernel_rfl) (fun _ _ _ h => h) (by rfl) ?y1_1 (O.sel [true, true, true]) ?r1_1
  case y1_1 =>
    intro WW hSw
    replace hSw : Mem _ _ WW _ := hSw
    have cs := hSw.facts
    simp only [sel, factsP, cellsP, roomP, foots_cons, foots_nil, foots_append, foot_pt, ptb, ptb_mapA, foot_mapA, factsP_mapA, foot_bun, List.append_nil, List.nil_append, List.cons_append, List.nodup_cons, List.nodup_nil, List.mem_cons, List.not_mem_nil, List.mem_singleton, List.forall_mem_cons, not_or, not_false_eq_true, and_true, true_and, or_false, false_or, forall_eq_or_imp, forall_eq, implies_true, Nat.zero_add, Nat.reduceAdd, and_assoc, upd_listA, upd_datasA, upd_txA, upd_mapA, upd_bun, upd_fam, ptb_listA, factsP_listA, Nat.mul_one, ptb_datasA, factsP_datasA, ptb_txA, factsP_txA, itCells, ptb_fam, factsP_fam, ptb_learnA, factsP_learnA] at cs
    (go_simp) <;> (with_reducible rfl)
  case' r1_1 =>
    try simp only [Act.put, List.setIfInBounds_toArray, List.set_cons_zero, List.set_cons_succ]
  refine takeH (i := 1) (v := ?v1_2) rfl (by kernel_rfl) (by kernel_rfl) (by kernel_rfl) (fun _ _ _ h => h) (by rfl) ?y1_2 (O.sel [true, true, true]) ?r1_2
  case y1_2 =>
    intro WW hSw
    (go_simp) <;> (with_reducible rfl)
  case' r1_2 =>
    try simp only [Act.put, List.setIfInBounds_toArray, List.set_cons_zero, List.set_cons_succ]
  refine takeH (i := 2) (v := ?v1_3) rfl (by kernel_rfl) (by kernel_rfl) (by kernel_rfl) (fun _ _ _ h => h) (by rfl) ?y1_3 (O.sel [true, true, true]) ?r1_3
  case y1_3 =>
    intro WW hSw
    (go_simp) <;> (with_reducible rfl)
  case' r1_3 =>
    try simp only [Act.put, List.setIfInBounds_toArray, List.set_cons_zero, List.set_cons_succ]
  refine takeH (i := 3) (v := ?v1_4) rfl (by kernel_rfl) (by kernel_rfl) (by kernel_rfl) (fun _ _ _ h => h) (by rfl) ?y1_4 (O.sel [true, true, true]) ?r1_4
  case y1_4 =>
    intro WW hSw
    replace hSw : Mem _ _ WW _ := hSw
    have cs := hSw.facts
    simp only [sel, factsP, cellsP, roomP, foots_cons, foots_nil, foots_append, foot_pt, ptb, ptb_mapA, foot_mapA, factsP_mapA, foot_bun, List.append_nil, List.nil_append, List.cons_append, List.nodup_cons, List.nodup_nil, List.mem_cons, List.not_mem_nil, List.mem_singleton, List.forall_mem_cons, not_or, not_false_eq_true, and_true, true_and, or_false, false_or, forall_eq_or_imp, forall_eq, implies_true, Nat.zero_add, Nat.reduceAdd, and_assoc, upd_listA, upd_datasA, upd_txA, upd_mapA, upd_bun, upd_fam, ptb_listA, factsP_listA, Nat.mul_one, ptb_datasA, factsP_datasA, ptb_txA, factsP_txA, itCells, ptb_fam, factsP_fam, ptb_learnA, factsP_learnA] at cs
    (go_simp) <;> (with_reducible rfl)
  case' r1_4 =>
    try simp only [Act.put, List.setIfInBounds_toArray, List.set_cons_zero, List.set_cons_succ]
  refine takeH (i := 4) (v := ?v1_5) rfl (by kernel_rfl) (by kernel_rfl) (by kernel_rfl) (fun _ _ _ h => h) (by rfl) ?y1_5 (O.sel [true, true, true]) ?r1_5
  case y1_5 =>
    intro WW hSw
    replace hSw : Mem _ _ WW _ := hSw
    have cs := hSw.facts
    simp only [sel, factsP, cellsP, roomP, foots_cons, foots_nil, foots_append, foot_pt, ptb, ptb_mapA, foot_mapA, factsP_mapA, foot_bun, List.append_nil, List.nil_append, List.cons_append, List.nodup_cons, List.nodup_nil, List.mem_cons, List.not_mem_nil, List.mem_singleton, List.forall_mem_cons, not_or, not_false_eq_true, and_true, true_and, or_false, false_or, forall_eq_or_imp, forall_eq, implies_true, Nat.zero_add, Nat.reduceAdd, and_assoc, upd_listA, upd_datasA, upd_txA, upd_mapA, upd_bun, upd_fam, ptb_listA, factsP_listA, Nat.mul_one, ptb_datasA, factsP_datasA, ptb_txA, factsP_txA, itCells, ptb_fam, factsP_fam, ptb_learnA, factsP_learnA] at cs
    (go_simp) <;> (with_reducible rfl)
  case' r1_5 =>
    try simp only [Act.put, List.setIfInBounds_toArray, List.set_cons_zero, List.set_cons_succ]
  refine wpAnyH_ready (rs := [5]) (by kernel_rfl) (by simp) ?_
  refine consH rfl (fun K hK => ?_) AllReadyH.nil
  have cs := O.facts
  simp only [factsP, cellsP, roomP, foots_cons, foots_nil, foots_append, foot_pt, ptb, ptb_mapA, foot_mapA, factsP_mapA, foot_bun, List.append_nil, List.nil_append, List.cons_append, List.nodup_cons, List.nodup_nil, List.mem_cons, List.not_mem_nil, List.mem_singleton, List.forall_mem_cons, not_or, not_false_eq_true, and_true, true_and, or_false, false_or, forall_eq_or_imp, forall_eq, implies_true, Nat.zero_add, Nat.reduceAdd, and_assoc, upd_listA, upd_datasA, upd_txA, upd_mapA, upd_bun, upd_fam, ptb_listA, factsP_listA, Nat.mul_one, ptb_datasA, factsP_datasA, ptb_txA, factsP_txA, itCells, ptb_fam, factsP_fam, ptb_learnA, factsP_learnA] at cs
  go_simp
  apply Mem.atCall
  case h => repeat' (first | (with_reducible exact O) | (with_reducible apply Mem.drew) | (with_reducible apply Mem.drewN) | (with_reducible apply Mem.ext) | (with_reducible apply Mem.alloc) | (with_reducible apply Mem.setCell) | (with_reducible apply Mem.newMap (κ := instKey) (vv := ptrV)) | (simp only [ptb, ptb_upd, foots_cons, List.mem_cons, World.size_alloc, size_ext, World.size_setCell, true_or, or_true, eq_self_iff_true, ptb_listA, ptb_datasA, ptb_txA, ptb_fam, ptb_learnA]))
  intro w1_6 O'
  (try clear O)
  have O := O'
  clear O'
  (first | simp only [sel, rst, List.cons_append, List.nil_append, World.size_alloc, size_ext, World.size_setCell, size_setMap, World.size_drew, size_drewN, upd, List.set_cons_zero, List.set_cons_succ, if_true, if_false, reduceIte, not_false_eq_true, ne_lt0, ne_lt1, ne_lt2, ne_lt3, ne_lt4, upd_listA, upd_datasA, upd_txA, upd_mapA, upd_bun, upd_fam, cs] at O | simp only [sel, rst, List.cons_append, List.nil_append, World.size_alloc, size_ext, World.size_setCell, size_setMap, World.size_drew, size_drewN, upd, List.set_cons_zero, List.set_cons_succ, if_true, if_false, reduceIte, not_false_eq_true, ne_lt0, ne_lt1, ne_lt2, ne_lt3, ne_lt4, upd_listA, upd_datasA, upd_txA, upd_mapA, upd_bun, upd_fam] at O | skip)
  (try clear cs)
  (try clear v1)
  (try clear v2)
  (try clear v3)
  refine (CN.out _).mono ?_
  rintro e w1_6' ⟨rfl, o⟩
  replace O := O.callp [false, false, false, false, false] o
  clear o
  simp only [put, List.cons_append, List.nil_append] at O
  go_wp2_with fail
  refine hK.out _ _ (O.sel [true, true, true]) (fun _ => ?_)
  clear hK K
  refine takeH (i := 6) (v := ?v1_7) rfl (by kernel_rfl) (by kernel_rfl) (by kernel_rfl) (fun _ _ _ h => h) (by rfl) ?y1_7 (O.sel [true, true, true]) ?r1_7
  case y1_7 =>
    intro WW hSw
    (go_simp) <;> (with_reducible rfl)
  case' r1_7 =>
    try simp only [Act.put, List.setIfInBounds_toArray, List.set_cons_zero, List.set_cons_succ]
  refine takeH (i := 7) (v := ?v1_8) rfl (by kernel_rfl) (by kernel_rfl) (by kernel_rfl) (fun _ _ _ h => h) (by rfl) ?y1_8 (O.sel [true, true, true]) ?r1_8
  case y1_8 =>
    intro WW hSw
    (go_simp) <;> (with_reducible rfl)
  case' r1_8 =>
    try simp only [Act.put, List.setIfInBounds_toArray, List.set_cons_zero, List.set_cons_succ]
  refine takeH (i := 8) (v := ?v1_9) rfl (by kernel_rfl) (by kernel_rfl) (by kernel_rfl) (fun _ _ _ h => h) (by rfl) ?y1_9 (O.sel [true, true, true]) ?r1_9
  case y1_9 =>
    intro WW hSw
    (go_simp) <;> (with_reducible rfl)
  case' r1_9 =>
    try simp only [Act.put, List.setIfInBounds_toArray, List.set_cons_zero, List.set_cons_succ]
  refine wpAnyH_ready (rs := [9]) (by kernel_rfl) (by simp) ?_
  refine consH rfl (fun K hK => ?_) AllReadyH.nil
  have cs := O.facts
  simp only [factsP, cellsP, roomP, foots_cons, foots_nil, foots_append, foot_pt, ptb, ptb_mapA, foot_mapA, factsP_mapA, foot_bun, List.append_nil, List.nil_append, List.cons_append, List.nodup_cons, List.nodup_nil, List.mem_cons, List.not_mem_nil, List.mem_singleton, List.forall_mem_cons, not_or, not_false_eq_true, and_true, true_and, or_false, false_or, forall_eq_or_imp, forall_eq, implies_true, Nat.zero_add, Nat.reduceAdd, and_assoc, upd_listA, upd_datasA, upd_txA, upd_mapA, upd_bun, upd_fam, ptb_listA, factsP_listA, Nat.mul_one, ptb_datasA, factsP_datasA, ptb_txA, factsP_txA, itCells, ptb_fam, factsP_fam, ptb_learnA, factsP_learnA] at cs
  (try clear cs)
  (try clear v1)
  (try clear v2)
  (try clear v3)
  refine if_mapUpdate_mem (O.front1 [false, false, false, true] rfl) rfl _ _ _ _ rfl Try.underlying99 rfl ⟨i1, i2, i3, i4⟩ HI.out _ rfl rfl ?_
  intro  w1_10 O'
  (try clear O)
  have O := O'.unfront
  clear O'
  simp only [put, List.cons_append, List.nil_append] at O
  refine hK.out _ _ (O.sel [true, true, true]) (fun _ => ?_)
  clear hK K
  refine wpAnyH_done (by kernel_rfl) ?_ _
  go_end0
  exact ⟨rfl, _, _, O.sel [false, true, true, true, true, true]⟩
end Go.Proofs.Ytplliabmnhigbaa
