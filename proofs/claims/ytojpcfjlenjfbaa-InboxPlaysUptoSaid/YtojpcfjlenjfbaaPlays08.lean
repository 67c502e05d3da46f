/- WALK: packets are taken in the order in which they were put (InboxPlays). -/
import Derived.Test.YtojpcfjlenjfbaaSame08
set_option linter.unusedVariables false
set_option linter.unusedSimpArgs false
namespace Go.Proofs.Ytojpcfjlenjfbaa
open Go.RowKit Go.Tk
section
variable {α : Type} {P : Program} {st e : TypeId} {size : Nat} {cs : α → List Value} {z : α} {w0 w w' : World} {F : List Nat} {L : List Asn} {l : List α} {A : Asn} {slot : Value} {ops : Array Oper} {rest : List Oper} {o : Oper} {a : Act} {Q : Exit → Act → World → Prop}
theorem _root_.Go.Tk.ElTy.wl_push (T : ElTy P st e size cs z) (hc : CutL e size cs slot l A) (h : Mem w0 F w (A :: L)) (hgd : o.guard = none) {s x : Operand} (ho : o.op = .call { callee := .builtin .append, args := #[s, x], argTypes := #[st, st] }) (hs : a.eval s = slot) (x0 : α) {ab : Addr} {c2 : Nat} (hx : a.eval x = .slice (some ab) 1 c2)
    (hsrc : Src w (some ab) size 1 ([x0].flatMap cs)) (hn : l.length ≤ 100000) (hK : ∀ a' cap' A' w', CutL e size cs (.slice a' (l.length + 1) cap') (l ++ [x0]) A' → Mem w0 F w' (A' :: L) → wpList P ops Q rest (a.put o.dst (.slice a' (l.length + 1) cap')) w') : wpList P ops Q (o :: rest) a w := by
  refine wpList_plain hgd fun K' hK' => ?_
  obtain ⟨a', cap', A', w', hrun, hC, hM⟩ := T.cut_push hc h x0 hsrc hn (c2 := c2) o.type
  unfold Oper.wp execOp
  simp only [ho, resolve, invoke, builtin, Sem.run_bind, Sem.run_pure, Result.andThen_ok, List.map_toArray, List.map_cons, List.map_nil, hs, hx, hrun]
  exact hK' _ _ (hK a' cap' A' w' hC hM)
end
theorem _root_.Go.Tk.CutL.head {α : Type} {e : TypeId} {size : Nat} {cs : α → List Value} {slot : Value} {l : List α} {A : Asn} {x : α} (hcs : ∀ a, (cs a).length = size) (hc : CutL e size cs slot (x :: l) A) : ∃ (g C k : Nat), slot = .slice (some ⟨g, k * size, none⟩) (l.length + 1) C ∧
    (∀ W, A.holds W → roomP g W.heap.size ∧ (∀ j, W.frozen? ⟨g, j, none⟩ = false) ∧ cellsQ W g (k * size) (cs x) 0) ∧
    (∀ (w0 w : World) (F : List Nat) (L : List Asn), Mem w0 F w (A :: L) → ∃ A', CutL e size cs (.slice (if C = 1 then some ⟨g, k * size, none⟩ else some ⟨g, k * size + 1 * size, none⟩) l.length (C - 1)) l A' ∧ Mem w0 F w (A' :: L)) := by
  have hc2 := hc
  rcases hc with ⟨h1, _⟩ | ⟨g, C, gone, rfl, rfl, hgC⟩
  · exact absurd h1 (by simp)
  · refine ⟨g, C - gone.length, gone.length, rfl, fun W hW => listA_at hcs hW (k := gone.length) (by simp), fun w0 w F L h => ?_⟩
    obtain ⟨g', C', k', he, A', h1, h2⟩ := CutL.tail hc2 h
    simp only [Value.slice.injEq, Option.some.injEq, Addr.mk.injEq] at he
    obtain ⟨⟨rfl, hk, _⟩, _, rfl⟩ := he
    rw [← hk] at h1
    exact ⟨A', h1, h2⟩
theorem factsP_bun8 {w : World} {l L : List Asn} : factsP w (bun l :: L) = factsP w L := rfl
theorem ptb_bun8 {l L : List Asn} : ptb (bun l :: L) = ptb L := rfl
theorem upd_bun8 {l L : List Asn} {b j : Nat} {v : Value} : upd (bun l :: L) b j v = bun l :: upd L b j v := rfl
theorem Mem.keep {w y W : World} {F : List Nat} {L : List Asn} (O : Mem w F y L) (bs : List Bool) (f : Fr (foots (Tk.sel bs L)) y W) {A0 : Asn} (h : A0 ∈ rst bs L) : A0.holds W := by
  have O' := O.perm (sel_rst bs L)
  have hmem : A0 ∈ Tk.sel bs L ++ rst bs L := List.mem_append_right _ h
  refine Asn.loc (w := y) (fun b hb => f.block b (O'.lt b (mem_foots hmem hb)) (fun hc => ?_)) (O'.hold A0 hmem)
  have hn := O'.nodup
  rw [foots_append, List.nodup_append] at hn
  exact hn.2.2 b hc b (mem_foots h hb) rfl
structure OpP where
  kind : Int
  p : PackM
def OpP.cells (o : OpP) : List Value := [.int .i64 o.kind, .int .u64 o.p.id, .int .i64 o.p.from_, .int .i64 o.p.to_, .slice o.p.A o.p.l.length o.p.c]
def OpP.ok (w : World) (o : OpP) : Prop := Rd w o.p.A o.p.l ∧ o.p.l.length ≤ 1048576
/-- the inbox holds what the law's list holds -/
def Tw (w : World) : List PackM → List PackM → Prop
  | [], [] => True
  | p :: ps, q :: qs => (p.id = q.id ∧ p.from_ = q.from_ ∧ p.to_ = q.to_ ∧ p.l = q.l ∧ Rd w q.A q.l ∧ q.l.length ≤ 1048576) ∧ Tw w ps qs
  | _, _ => False
theorem Tw.len {w : World} : ∀ {ps qs : List PackM}, Tw w ps qs → ps.length = qs.length
  | [], [], _ => rfl
  | p :: ps, q :: qs, h => by simp [Tw.len h.2]
  | [], _ :: _, h => h.elim
  | _ :: _, [], h => h.elim
theorem Tw.snoc {w : World} {p q : PackM} (hpq : p.id = q.id ∧ p.from_ = q.from_ ∧ p.to_ = q.to_ ∧ p.l = q.l ∧ Rd w q.A q.l ∧ q.l.length ≤ 1048576) : ∀ {ps qs : List PackM}, Tw w ps qs → Tw w (ps ++ [p]) (qs ++ [q])
  | [], [], _ => ⟨hpq, trivial⟩
  | a :: ps, b :: qs, h => ⟨h.1, Tw.snoc hpq h.2⟩
  | [], _ :: _, h => h.elim
  | _ :: _, [], h => h.elim
/-- the state between two ops -/
def PI (w : World) (ib : Nat) (room : Int) (s9 : Value) (wr : World) : Prop :=
  ∃ (ps ql : List PackM) (A : Asn) (IA : Option Addr) (ic : Nat), CutL 34 4 packCells s9 ql A ∧ Tw w ps ql ∧ (ps.length : Int) ≤ room ∧ Mem w [] wr (inbL ib room IA ic ps ++ [bun [A]])
set_option maxRecDepth 100000 in
set_option maxHeartbeats 16000000 in
theorem plays_walk (w : World) (room : Int) (SV : Value) (ops : List OpP) (hs : ArgList w 5 OpP.cells SV ops) (hok : ∀ o ∈ ops, o.ok w) :
    Calls Try.prog 4 #[.int .i64 room, SV] w (fun e w' => e = .returned (.bool true) ∧ Below w.heap.size w w') := by
  obtain ⟨hl, SA, sc, rfl, hcs⟩ := hs
  have HS := Lib.hid hcs
  have HV := Lib.hid hok
  clear hcs hok
  have O : Mem w [] w [] := Mem.begin
  by_cases hroom : 1 ≤ room ∧ room ≤ 256
  case neg =>
    have CB := Lib.hid (fun W => i_New_bad room W hroom)
    have hr1 : (decide (1 ≤ room) && decide (room ≤ 256)) = false := by simp; omega
    by_cases h1 : 1 ≤ room
    · have h2 : ¬ room ≤ 256 := fun h => hroom ⟨h1, h⟩
      have e1 : decide (1 ≤ room) = true := by simpa using h1
      have e2 : decide (room ≤ 256) = false := by simpa using h2
      clear hroom hr1 h1 h2
      go_enter Try.func4, Try.ntmps4
      skip
      have cs := O.facts
      try simp only [factsP, cellsP, roomP, foots_cons, foots_nil, foots_append, foot_pt, ptb, ptb_mapA, foot_mapA, factsP_mapA, foot_bun, List.append_nil, List.nil_append, List.cons_append, List.nodup_cons, List.nodup_nil, List.mem_cons, List.not_mem_nil, List.mem_singleton, List.forall_mem_cons, not_or, not_false_eq_true, and_true, true_and, or_false, false_or, forall_eq_or_imp, forall_eq, implies_true, Nat.zero_add, Nat.reduceAdd, and_assoc, ptb_listA, factsP_listA, factsP_packsA, ptb_packsA, upd_listA8, upd_packsA, Nat.mul_one, upd_bun8, ptb_bun8, factsP_bun8, byteCells, packCells] at cs
      go_wp2_with fail
      first | apply Mem.atCall | apply Mem.atCode | apply Mem.atList
      case h => repeat' (first | (with_reducible exact O) | (with_reducible apply Mem.drew) | (with_reducible apply Mem.drewN) | (with_reducible apply Mem.ext) | (with_reducible apply Mem.alloc) | (with_reducible apply Mem.setCell) | (simp only [ptb, ptb_upd, foots_cons, List.mem_cons, World.size_alloc, size_ext, World.size_setCell, true_or, or_true, eq_self_iff_true, ptb_listA, ptb_packsA, ptb_bun8]))
      case' k =>
        intro w1 O'
        (try clear O)
        have O := O'
        clear O'
        (first | simp only [sel, rst, List.cons_append, List.nil_append, World.size_alloc, size_ext, World.size_setCell, size_setMap, World.size_drew, size_drewN, upd, List.set_cons_zero, List.set_cons_succ, if_true, if_false, reduceIte, not_false_eq_true, ne_lt0, ne_lt1, ne_lt2, ne_lt3, ne_lt4, upd_listA8, upd_packsA, upd_bun8, cs] at O | simp only [sel, rst, List.cons_append, List.nil_append, World.size_alloc, size_ext, World.size_setCell, size_setMap, World.size_drew, size_drewN, upd, List.set_cons_zero, List.set_cons_succ, if_true, if_false, reduceIte, not_false_eq_true, ne_lt0, ne_lt1, ne_lt2, ne_lt3, ne_lt4, upd_listA8, upd_packsA, upd_bun8] at O | skip)
        (try clear cs)
        (try clear v1)
        (try clear v2)
        (try clear v3)
      refine (law_awake8 _).mono ?_
      rintro e w2 ⟨rfl, o⟩
      replace O := O.callp [] o
      clear o
      simp only [put, List.cons_append, List.nil_append] at O
      have cs := O.facts
      try simp only [factsP, cellsP, roomP, foots_cons, foots_nil, foots_append, foot_pt, ptb, ptb_mapA, foot_mapA, factsP_mapA, foot_bun, List.append_nil, List.nil_append, List.cons_append, List.nodup_cons, List.nodup_nil, List.mem_cons, List.not_mem_nil, List.mem_singleton, List.forall_mem_cons, not_or, not_false_eq_true, and_true, true_and, or_false, false_or, forall_eq_or_imp, forall_eq, implies_true, Nat.zero_add, Nat.reduceAdd, and_assoc, ptb_listA, factsP_listA, factsP_packsA, ptb_packsA, upd_listA8, upd_packsA, Nat.mul_one, upd_bun8, ptb_bun8, factsP_bun8, byteCells, packCells] at cs
      go_wp2_with fail
      first | apply Mem.atCall | apply Mem.atCode | apply Mem.atList
      case h => repeat' (first | (with_reducible exact O) | (with_reducible apply Mem.drew) | (with_reducible apply Mem.drewN) | (with_reducible apply Mem.ext) | (with_reducible apply Mem.alloc) | (with_reducible apply Mem.setCell) | (simp only [ptb, ptb_upd, foots_cons, List.mem_cons, World.size_alloc, size_ext, World.size_setCell, true_or, or_true, eq_self_iff_true, ptb_listA, ptb_packsA, ptb_bun8]))
      case' k =>
        intro w3 O'
        (try clear O)
        have O := O'
        clear O'
        (first | simp only [sel, rst, List.cons_append, List.nil_append, World.size_alloc, size_ext, World.size_setCell, size_setMap, World.size_drew, size_drewN, upd, List.set_cons_zero, List.set_cons_succ, if_true, if_false, reduceIte, not_false_eq_true, ne_lt0, ne_lt1, ne_lt2, ne_lt3, ne_lt4, upd_listA8, upd_packsA, upd_bun8, cs] at O | simp only [sel, rst, List.cons_append, List.nil_append, World.size_alloc, size_ext, World.size_setCell, size_setMap, World.size_drew, size_drewN, upd, List.set_cons_zero, List.set_cons_succ, if_true, if_false, reduceIte, not_false_eq_true, ne_lt0, ne_lt1, ne_lt2, ne_lt3, ne_lt4, upd_listA8, upd_packsA, upd_bun8] at O | skip)
        (try clear cs)
        (try clear v1)
        (try clear v2)
        (try clear v3)
      refine (CB.out _).mono ?_
      rintro e w4 ⟨rfl, o⟩
      replace O := O.callp [] o
      clear o
      simp only [put, List.cons_append, List.nil_append] at O
      have cs := O.facts
      try simp only [factsP, cellsP, roomP, foots_cons, foots_nil, foots_append, foot_pt, ptb, ptb_mapA, foot_mapA, factsP_mapA, foot_bun, List.append_nil, List.nil_append, List.cons_append, List.nodup_cons, List.nodup_nil, List.mem_cons, List.not_mem_nil, List.mem_singleton, List.forall_mem_cons, not_or, not_false_eq_true, and_true, true_and, or_false, false_or, forall_eq_or_imp, forall_eq, implies_true, Nat.zero_add, Nat.reduceAdd, and_assoc, ptb_listA, factsP_listA, factsP_packsA, ptb_packsA, upd_listA8, upd_packsA, Nat.mul_one, upd_bun8, ptb_bun8, factsP_bun8, byteCells, packCells] at cs
      go_wp2_with fail
      go_ret
      exact ⟨rfl, O.fr0.fr.below rfl⟩
    · have e1 : decide (1 ≤ room) = false := by simpa using h1
      clear hroom hr1 h1
      go_enter Try.func4, Try.ntmps4
      skip
      have cs := O.facts
      try simp only [factsP, cellsP, roomP, foots_cons, foots_nil, foots_append, foot_pt, ptb, ptb_mapA, foot_mapA, factsP_mapA, foot_bun, List.append_nil, List.nil_append, List.cons_append, List.nodup_cons, List.nodup_nil, List.mem_cons, List.not_mem_nil, List.mem_singleton, List.forall_mem_cons, not_or, not_false_eq_true, and_true, true_and, or_false, false_or, forall_eq_or_imp, forall_eq, implies_true, Nat.zero_add, Nat.reduceAdd, and_assoc, ptb_listA, factsP_listA, factsP_packsA, ptb_packsA, upd_listA8, upd_packsA, Nat.mul_one, upd_bun8, ptb_bun8, factsP_bun8, byteCells, packCells] at cs
      go_wp2_with fail
      first | apply Mem.atCall | apply Mem.atCode | apply Mem.atList
      case h => repeat' (first | (with_reducible exact O) | (with_reducible apply Mem.drew) | (with_reducible apply Mem.drewN) | (with_reducible apply Mem.ext) | (with_reducible apply Mem.alloc) | (with_reducible apply Mem.setCell) | (simp only [ptb, ptb_upd, foots_cons, List.mem_cons, World.size_alloc, size_ext, World.size_setCell, true_or, or_true, eq_self_iff_true, ptb_listA, ptb_packsA, ptb_bun8]))
      case' k =>
        intro w1 O'
        (try clear O)
        have O := O'
        clear O'
        (first | simp only [sel, rst, List.cons_append, List.nil_append, World.size_alloc, size_ext, World.size_setCell, size_setMap, World.size_drew, size_drewN, upd, List.set_cons_zero, List.set_cons_succ, if_true, if_false, reduceIte, not_false_eq_true, ne_lt0, ne_lt1, ne_lt2, ne_lt3, ne_lt4, upd_listA8, upd_packsA, upd_bun8, cs] at O | simp only [sel, rst, List.cons_append, List.nil_append, World.size_alloc, size_ext, World.size_setCell, size_setMap, World.size_drew, size_drewN, upd, List.set_cons_zero, List.set_cons_succ, if_true, if_false, reduceIte, not_false_eq_true, ne_lt0, ne_lt1, ne_lt2, ne_lt3, ne_lt4, upd_listA8, upd_packsA, upd_bun8] at O | skip)
        (try clear cs)
        (try clear v1)
        (try clear v2)
        (try clear v3)
      refine (law_awake8 _).mono ?_
      rintro e w2 ⟨rfl, o⟩
      replace O := O.callp [] o
      clear o
      simp only [put, List.cons_append, List.nil_append] at O
      have cs := O.facts
      try simp only [factsP, cellsP, roomP, foots_cons, foots_nil, foots_append, foot_pt, ptb, ptb_mapA, foot_mapA, factsP_mapA, foot_bun, List.append_nil, List.nil_append, List.cons_append, List.nodup_cons, List.nodup_nil, List.mem_cons, List.not_mem_nil, List.mem_singleton, List.forall_mem_cons, not_or, not_false_eq_true, and_true, true_and, or_false, false_or, forall_eq_or_imp, forall_eq, implies_true, Nat.zero_add, Nat.reduceAdd, and_assoc, ptb_listA, factsP_listA, factsP_packsA, ptb_packsA, upd_listA8, upd_packsA, Nat.mul_one, upd_bun8, ptb_bun8, factsP_bun8, byteCells, packCells] at cs
      go_wp2_with fail
      first | apply Mem.atCall | apply Mem.atCode | apply Mem.atList
      case h => repeat' (first | (with_reducible exact O) | (with_reducible apply Mem.drew) | (with_reducible apply Mem.drewN) | (with_reducible apply Mem.ext) | (with_reducible apply Mem.alloc) | (with_reducible apply Mem.setCell) | (simp only [ptb, ptb_upd, foots_cons, List.mem_cons, World.size_alloc, size_ext, World.size_setCell, true_or, or_true, eq_self_iff_true, ptb_listA, ptb_packsA, ptb_bun8]))
      case' k =>
        intro w3 O'
        (try clear O)
        have O := O'
        clear O'
        (first | simp only [sel, rst, List.cons_append, List.nil_append, World.size_alloc, size_ext, World.size_setCell, size_setMap, World.size_drew, size_drewN, upd, List.set_cons_zero, List.set_cons_succ, if_true, if_false, reduceIte, not_false_eq_true, ne_lt0, ne_lt1, ne_lt2, ne_lt3, ne_lt4, upd_listA8, upd_packsA, upd_bun8, cs] at O | simp only [sel, rst, List.cons_append, List.nil_append, World.size_alloc, size_ext, World.size_setCell, size_setMap, World.size_drew, size_drewN, upd, List.set_cons_zero, List.set_cons_succ, if_true, if_false, reduceIte, not_false_eq_true, ne_lt0, ne_lt1, ne_lt2, ne_lt3, ne_lt4, upd_listA8, upd_packsA, upd_bun8] at O | skip)
        (try clear cs)
        (try clear v1)
        (try clear v2)
        (try clear v3)
      refine (CB.out _).mono ?_
      rintro e w4 ⟨rfl, o⟩
      replace O := O.callp [] o
      clear o
      simp only [put, List.cons_append, List.nil_append] at O
      have cs := O.facts
      try simp only [factsP, cellsP, roomP, foots_cons, foots_nil, foots_append, foot_pt, ptb, ptb_mapA, foot_mapA, factsP_mapA, foot_bun, List.append_nil, List.nil_append, List.cons_append, List.nodup_cons, List.nodup_nil, List.mem_cons, List.not_mem_nil, List.mem_singleton, List.forall_mem_cons, not_or, not_false_eq_true, and_true, true_and, or_false, false_or, forall_eq_or_imp, forall_eq, implies_true, Nat.zero_add, Nat.reduceAdd, and_assoc, ptb_listA, factsP_listA, factsP_packsA, ptb_packsA, upd_listA8, upd_packsA, Nat.mul_one, upd_bun8, ptb_bun8, factsP_bun8, byteCells, packCells] at cs
      go_wp2_with fail
      go_ret
      exact ⟨rfl, O.fr0.fr.below rfl⟩
  case pos =>
    obtain ⟨hr1, hr2⟩ := hroom
    have CN := Lib.hid (fun W => i_New room W ⟨hr1, hr2⟩)
    have hrd1 : decide (1 ≤ room) = true := by simpa using hr1
    have hrd2 : decide (room ≤ 256) = true := by simpa using hr2
    go_enter Try.func4, Try.ntmps4
    skip
    have cs := O.facts
    try simp only [factsP, cellsP, roomP, foots_cons, foots_nil, foots_append, foot_pt, ptb, ptb_mapA, foot_mapA, factsP_mapA, foot_bun, List.append_nil, List.nil_append, List.cons_append, List.nodup_cons, List.nodup_nil, List.mem_cons, List.not_mem_nil, List.mem_singleton, List.forall_mem_cons, not_or, not_false_eq_true, and_true, true_and, or_false, false_or, forall_eq_or_imp, forall_eq, implies_true, Nat.zero_add, Nat.reduceAdd, and_assoc, ptb_listA, factsP_listA, factsP_packsA, ptb_packsA, upd_listA8, upd_packsA, Nat.mul_one, upd_bun8, ptb_bun8, factsP_bun8, byteCells, packCells] at cs
    go_wp2_with fail
    first | apply Mem.atCall | apply Mem.atCode | apply Mem.atList
    case h => repeat' (first | (with_reducible exact O) | (with_reducible apply Mem.drew) | (with_reducible apply Mem.drewN) | (with_reducible apply Mem.ext) | (with_reducible apply Mem.alloc) | (with_reducible apply Mem.setCell) | (simp only [ptb, ptb_upd, foots_cons, List.mem_cons, World.size_alloc, size_ext, World.size_setCell, true_or, or_true, eq_self_iff_true, ptb_listA, ptb_packsA, ptb_bun8]))
    case' k =>
      intro w1 O'
      (try clear O)
      have O := O'
      clear O'
      (first | simp only [sel, rst, List.cons_append, List.nil_append, World.size_alloc, size_ext, World.size_setCell, size_setMap, World.size_drew, size_drewN, upd, List.set_cons_zero, List.set_cons_succ, if_true, if_false, reduceIte, not_false_eq_true, ne_lt0, ne_lt1, ne_lt2, ne_lt3, ne_lt4, upd_listA8, upd_packsA, upd_bun8, cs] at O | simp only [sel, rst, List.cons_append, List.nil_append, World.size_alloc, size_ext, World.size_setCell, size_setMap, World.size_drew, size_drewN, upd, List.set_cons_zero, List.set_cons_succ, if_true, if_false, reduceIte, not_false_eq_true, ne_lt0, ne_lt1, ne_lt2, ne_lt3, ne_lt4, upd_listA8, upd_packsA, upd_bun8] at O | skip)
      (try clear cs)
      (try clear v1)
      (try clear v2)
      (try clear v3)
    refine (law_awake8 _).mono ?_
    rintro e w2 ⟨rfl, o⟩
    replace O := O.callp [] o
    clear o
    simp only [put, List.cons_append, List.nil_append] at O
    have cs := O.facts
    try simp only [factsP, cellsP, roomP, foots_cons, foots_nil, foots_append, foot_pt, ptb, ptb_mapA, foot_mapA, factsP_mapA, foot_bun, List.append_nil, List.nil_append, List.cons_append, List.nodup_cons, List.nodup_nil, List.mem_cons, List.not_mem_nil, List.mem_singleton, List.forall_mem_cons, not_or, not_false_eq_true, and_true, true_and, or_false, false_or, forall_eq_or_imp, forall_eq, implies_true, Nat.zero_add, Nat.reduceAdd, and_assoc, ptb_listA, factsP_listA, factsP_packsA, ptb_packsA, upd_listA8, upd_packsA, Nat.mul_one, upd_bun8, ptb_bun8, factsP_bun8, byteCells, packCells] at cs
    go_wp2_with fail
    first | apply Mem.atCall | apply Mem.atCode | apply Mem.atList
    case h => repeat' (first | (with_reducible exact O) | (with_reducible apply Mem.drew) | (with_reducible apply Mem.drewN) | (with_reducible apply Mem.ext) | (with_reducible apply Mem.alloc) | (with_reducible apply Mem.setCell) | (simp only [ptb, ptb_upd, foots_cons, List.mem_cons, World.size_alloc, size_ext, World.size_setCell, true_or, or_true, eq_self_iff_true, ptb_listA, ptb_packsA, ptb_bun8]))
    case' k =>
      intro w3 O'
      (try clear O)
      have O := O'
      clear O'
      (first | simp only [sel, rst, List.cons_append, List.nil_append, World.size_alloc, size_ext, World.size_setCell, size_setMap, World.size_drew, size_drewN, upd, List.set_cons_zero, List.set_cons_succ, if_true, if_false, reduceIte, not_false_eq_true, ne_lt0, ne_lt1, ne_lt2, ne_lt3, ne_lt4, upd_listA8, upd_packsA, upd_bun8, cs] at O | simp only [sel, rst, List.cons_append, List.nil_append, World.size_alloc, size_ext, World.size_setCell, size_setMap, World.size_drew, size_drewN, upd, List.set_cons_zero, List.set_cons_succ, if_true, if_false, reduceIte, not_false_eq_true, ne_lt0, ne_lt1, ne_lt2, ne_lt3, ne_lt4, upd_listA8, upd_packsA, upd_bun8] at O | skip)
      (try clear cs)
      (try clear v1)
      (try clear v2)
      (try clear v3)
    refine (CN.out _).mono ?_
    rintro e w4 ⟨ib, rfl, o⟩
    replace O := O.callp [] o
    clear o
    simp only [put, List.cons_append, List.nil_append] at O
    simp only [inbL, List.append_nil, List.length_nil] at O
    have cs := O.facts
    try simp only [factsP, cellsP, roomP, foots_cons, foots_nil, foots_append, foot_pt, ptb, ptb_mapA, foot_mapA, factsP_mapA, foot_bun, List.append_nil, List.nil_append, List.cons_append, List.nodup_cons, List.nodup_nil, List.mem_cons, List.not_mem_nil, List.mem_singleton, List.forall_mem_cons, not_or, not_false_eq_true, and_true, true_and, or_false, false_or, forall_eq_or_imp, forall_eq, implies_true, Nat.zero_add, Nat.reduceAdd, and_assoc, ptb_listA, factsP_listA, factsP_packsA, ptb_packsA, upd_listA8, upd_packsA, Nat.mul_one, upd_bun8, ptb_bun8, factsP_bun8, byteCells, packCells] at cs
    go_wp2_with fail
    clear cs
    go_loopw [9, 10] (fun s9 s10 wr => ∃ (i : Nat), i ≤ 400 ∧ s10 = .int .i64 i ∧ PI w ib room s9 wr) (fun _ s10 _ => 400 - (intOf s10).toNat)
    case atStart =>
      refine ⟨0, by omega, rfl, [], [], bun [], none, 0, .inl ⟨rfl, ⟨none, rfl⟩, rfl⟩, trivial, by simp; omega, ?_⟩
      have O := Mem.shut (l := [bun []]) (Mem.shut (l := []) O)
      replace O := ((((O).front [true]).front [false, false, false, true]).front [false, false, false, true]).front [false, false, false, true]
      simp only [Tk.sel, rst, List.cons_append, List.nil_append] at O
      replace O := O.sel [true, true, true, true]
      simp only [Tk.sel] at O
      exact O
    case round =>
      clear O
      obtain ⟨i, hi4, rfl, hPI⟩ := hrel
      by_cases hk : i < ops.length ∧ i < 400
      · obtain ⟨hk1, hk2⟩ := hk
        have hk1i : (i : Int) < ops.length := by omega
        have hk2i : (i : Int) < 400 := by omega
        obtain ⟨ps, ql, A, IA, ic, hC, hT, hpr, O⟩ := hPI
        obtain ⟨qa, qc, rfl⟩ := hC.len
        have HLEN := Lib.hid hT.len
        have HC := Lib.hid hC
        have HT := Lib.hid hT
        clear hC hT
        have hq := HS.out i _ (List.getElem?_eq_getElem hk1)
        have hv := HV.out _ (List.getElem_mem hk1)
        generalize ops[i] = o at hq hv
        obtain ⟨ok, ⟨oi, of, ot, oA, oc, ol⟩⟩ := o
        obtain ⟨hrd, hol⟩ := hv
        simp only at hrd hol
        obtain ⟨bs, os, rfl, hbs, hqs⟩ := hq
        have VE := Lib.hid (fun W (h : Fr [] w W) => arg_view hbs hqs h)
        simp only [OpP.cells, cellsQ, Nat.add_zero, and_true, Nat.reduceAdd, Nat.zero_add] at VE
        have HRD := Lib.hid hrd
        clear hbs hqs hrd
        simp only [inbL, List.cons_append, List.nil_append] at O
        have hlb : ps.length ≤ 256 := by omega
        skip
        by_cases k1 : ok = 1
        · -- [[PUT
          subst k1
          have cs := O.facts
          try simp only [factsP, cellsP, roomP, foots_cons, foots_nil, foots_append, foot_pt, ptb, ptb_mapA, foot_mapA, factsP_mapA, foot_bun, List.append_nil, List.nil_append, List.cons_append, List.nodup_cons, List.nodup_nil, List.mem_cons, List.not_mem_nil, List.mem_singleton, List.forall_mem_cons, not_or, not_false_eq_true, and_true, true_and, or_false, false_or, forall_eq_or_imp, forall_eq, implies_true, Nat.zero_add, Nat.reduceAdd, and_assoc, ptb_listA, factsP_listA, factsP_packsA, ptb_packsA, upd_listA8, upd_packsA, Nat.mul_one, upd_bun8, ptb_bun8, factsP_bun8, byteCells, packCells] at cs
          have v1 := VE.out _ O.fr
          try simp only [cellsQ, roomP, and_assoc, and_true, true_and, Nat.add_zero, Nat.zero_add, Nat.reduceAdd, factsP, cellsP, roomP, foots_cons, foots_nil, foots_append, foot_pt, ptb, ptb_mapA, foot_mapA, factsP_mapA, foot_bun, List.append_nil, List.nil_append, List.cons_append, List.nodup_cons, List.nodup_nil, List.mem_cons, List.not_mem_nil, List.mem_singleton, List.forall_mem_cons, not_or, not_false_eq_true, and_true, true_and, or_false, false_or, forall_eq_or_imp, forall_eq, implies_true, Nat.zero_add, Nat.reduceAdd, and_assoc, ptb_listA, factsP_listA, factsP_packsA, ptb_packsA, upd_listA8, upd_packsA, Nat.mul_one, upd_bun8, ptb_bun8, factsP_bun8, byteCells, packCells] at v1
          go_upto_region 15 with fail
          first | apply Mem.atCall | apply Mem.atCode | apply Mem.atList
          case h => repeat' (first | (with_reducible exact O) | (with_reducible apply Mem.drew) | (with_reducible apply Mem.drewN) | (with_reducible apply Mem.ext) | (with_reducible apply Mem.alloc) | (with_reducible apply Mem.setCell) | (simp only [ptb, ptb_upd, foots_cons, List.mem_cons, World.size_alloc, size_ext, World.size_setCell, true_or, or_true, eq_self_iff_true, ptb_listA, ptb_packsA, ptb_bun8]))
          case' k =>
            intro y1 O'
            (try clear O)
            have O := O'
            clear O'
            (first | simp only [sel, rst, List.cons_append, List.nil_append, World.size_alloc, size_ext, World.size_setCell, size_setMap, World.size_drew, size_drewN, upd, List.set_cons_zero, List.set_cons_succ, if_true, if_false, reduceIte, not_false_eq_true, ne_lt0, ne_lt1, ne_lt2, ne_lt3, ne_lt4, upd_listA8, upd_packsA, upd_bun8, cs] at O | simp only [sel, rst, List.cons_append, List.nil_append, World.size_alloc, size_ext, World.size_setCell, size_setMap, World.size_drew, size_drewN, upd, List.set_cons_zero, List.set_cons_succ, if_true, if_false, reduceIte, not_false_eq_true, ne_lt0, ne_lt1, ne_lt2, ne_lt3, ne_lt4, upd_listA8, upd_packsA, upd_bun8] at O | skip)
            (try clear cs)
            (try clear v1)
            (try clear v2)
            (try clear v3)
          generalize wr.heap.size = pb at O ⊢
          generalize pb + 1 = ub at O ⊢
          skip
          have cs := O.facts
          try simp only [factsP, cellsP, roomP, foots_cons, foots_nil, foots_append, foot_pt, ptb, ptb_mapA, foot_mapA, factsP_mapA, foot_bun, List.append_nil, List.nil_append, List.cons_append, List.nodup_cons, List.nodup_nil, List.mem_cons, List.not_mem_nil, List.mem_singleton, List.forall_mem_cons, not_or, not_false_eq_true, and_true, true_and, or_false, false_or, forall_eq_or_imp, forall_eq, implies_true, Nat.zero_add, Nat.reduceAdd, and_assoc, ptb_listA, factsP_listA, factsP_packsA, ptb_packsA, upd_listA8, upd_packsA, Nat.mul_one, upd_bun8, ptb_bun8, factsP_bun8, byteCells, packCells] at cs
          go_upto_region 16 with ((at_builtin; refine byteTy.wl_app (ptList (l := []) (fun _ => rfl) (O.alloc [] 5) (by simp)) rfl rfl rfl rfl ol rfl rfl ((HRD.out.fr (O.alloc [] 5).fr).src) (by first | (simp; done) | (simp; omega)) ?_; intro A1 c1 w4 O4; have cs1 := O4.facts; simp only [factsP, cellsP, roomP, foots_cons, foots_nil, foots_append, foot_pt, ptb, ptb_mapA, foot_mapA, factsP_mapA, foot_bun, List.append_nil, List.nil_append, List.cons_append, List.nodup_cons, List.nodup_nil, List.mem_cons, List.not_mem_nil, List.mem_singleton, List.forall_mem_cons, not_or, not_false_eq_true, and_true, true_and, or_false, false_or, forall_eq_or_imp, forall_eq, implies_true, Nat.zero_add, Nat.reduceAdd, and_assoc, ptb_listA, factsP_listA, factsP_packsA, ptb_packsA, upd_listA8, upd_packsA, Nat.mul_one, upd_bun8, ptb_bun8, factsP_bun8, byteCells, packCells] at cs1))
          clear cs O cs1
          have O := O4
          clear O4
          simp only [List.nil_append] at O
          first | apply Mem.atCall | apply Mem.atCode | apply Mem.atList
          case h => repeat' (first | (with_reducible exact O) | (with_reducible apply Mem.drew) | (with_reducible apply Mem.drewN) | (with_reducible apply Mem.ext) | (with_reducible apply Mem.alloc) | (with_reducible apply Mem.setCell) | (simp only [ptb, ptb_upd, foots_cons, List.mem_cons, World.size_alloc, size_ext, World.size_setCell, true_or, or_true, eq_self_iff_true, ptb_listA, ptb_packsA, ptb_bun8]))
          case' k =>
            intro y2 O'
            (try clear O)
            have O := O'
            clear O'
            (first | simp only [sel, rst, List.cons_append, List.nil_append, World.size_alloc, size_ext, World.size_setCell, size_setMap, World.size_drew, size_drewN, upd, List.set_cons_zero, List.set_cons_succ, if_true, if_false, reduceIte, not_false_eq_true, ne_lt0, ne_lt1, ne_lt2, ne_lt3, ne_lt4, upd_listA8, upd_packsA, upd_bun8, cs] at O | simp only [sel, rst, List.cons_append, List.nil_append, World.size_alloc, size_ext, World.size_setCell, size_setMap, World.size_drew, size_drewN, upd, List.set_cons_zero, List.set_cons_succ, if_true, if_false, reduceIte, not_false_eq_true, ne_lt0, ne_lt1, ne_lt2, ne_lt3, ne_lt4, upd_listA8, upd_packsA, upd_bun8] at O | skip)
            (try clear cs)
            (try clear v1)
            (try clear v2)
            (try clear v3)
          have hAn : A1 = none → c1 = 0 := fun e => by
            subst e
            exact (listA_none (O.hold (bytesA none c1 ol) (by simp))).2
          have HAN := Lib.hid hAn
          clear hAn
          go_cut [13] (fun s13 wc => s13 = .int .i64 (if (ql.length : Int) < room then 0 else 81) ∧ ∃ (ps' : List PackM) (IA' : Option Addr) (ic' : Nat), ((ql.length : Int) < room → Tw w ps' (ql ++ [⟨oi, of, ot, oA, oc, ol⟩])) ∧ (¬ (ql.length : Int) < room → Tw w ps' ql) ∧ (ps'.length : Int) ≤ room ∧
            Mem w [] wc [bytesA A1 c1 ol, .pt ub [.int .u64 oi, .int .i64 of, .int .i64 ot, .slice A1 ol.length c1] 34, .pt pb [.int .u64 oi, .int .i64 of, .int .i64 ot, .slice oA ol.length oc] 34, .pt ib [.int .i64 room, .slice IA' ps'.length ic'] 82, pksA IA' ic' ps', packsA ps', bun [A]])
          case first =>
            by_cases hfull : (ps.length : Int) < room
            · have CP := Lib.hid (fun W hW hr => i_Put W ib room IA ic ps ⟨oi, of, ot, A1, c1, ol⟩ hW hfull (by omega) hr HAN.out (by simp only; omega))
              simp only [inbL, PackM.val] at CP
              have hq0 : (ql.length : Int) < room := by have := HLEN.out; omega
              have HQ0 := Lib.hid hq0
              clear hq0
              skip
              have cs := O.facts
              try simp only [factsP, cellsP, roomP, foots_cons, foots_nil, foots_append, foot_pt, ptb, ptb_mapA, foot_mapA, factsP_mapA, foot_bun, List.append_nil, List.nil_append, List.cons_append, List.nodup_cons, List.nodup_nil, List.mem_cons, List.not_mem_nil, List.mem_singleton, List.forall_mem_cons, not_or, not_false_eq_true, and_true, true_and, or_false, false_or, forall_eq_or_imp, forall_eq, implies_true, Nat.zero_add, Nat.reduceAdd, and_assoc, ptb_listA, factsP_listA, factsP_packsA, ptb_packsA, upd_listA8, upd_packsA, Nat.mul_one, upd_bun8, ptb_bun8, factsP_bun8, byteCells, packCells] at cs
              go_wp2_with fail
              first | apply Mem.atCall | apply Mem.atCode | apply Mem.atList
              case h => repeat' (first | (with_reducible exact O) | (with_reducible apply Mem.drew) | (with_reducible apply Mem.drewN) | (with_reducible apply Mem.ext) | (with_reducible apply Mem.alloc) | (with_reducible apply Mem.setCell) | (simp only [ptb, ptb_upd, foots_cons, List.mem_cons, World.size_alloc, size_ext, World.size_setCell, true_or, or_true, eq_self_iff_true, ptb_listA, ptb_packsA, ptb_bun8]))
              case' k =>
                intro y3 O'
                (try clear O)
                have O := O'
                clear O'
                (first | simp only [sel, rst, List.cons_append, List.nil_append, World.size_alloc, size_ext, World.size_setCell, size_setMap, World.size_drew, size_drewN, upd, List.set_cons_zero, List.set_cons_succ, if_true, if_false, reduceIte, not_false_eq_true, ne_lt0, ne_lt1, ne_lt2, ne_lt3, ne_lt4, upd_listA8, upd_packsA, upd_bun8, cs] at O | simp only [sel, rst, List.cons_append, List.nil_append, World.size_alloc, size_ext, World.size_setCell, size_setMap, World.size_drew, size_drewN, upd, List.set_cons_zero, List.set_cons_succ, if_true, if_false, reduceIte, not_false_eq_true, ne_lt0, ne_lt1, ne_lt2, ne_lt3, ne_lt4, upd_listA8, upd_packsA, upd_bun8] at O | skip)
                (try clear cs)
                (try clear v1)
                (try clear v2)
                (try clear v3)
              refine (CP.out _ (O.pre [false, false, false, true, true, true, false]) (fun W f => listA_rd (Mem.keep (A0 := bytesA A1 c1 ol) O [false, false, false, true, true, true, false] f (by simp [rst])))).mono ?_
              rintro e y4 ⟨rfl, A2, c2, B, d, o⟩
              replace O := O.callp [false, false, false, true, true, true, false] o
              clear o
              simp only [put, List.cons_append, List.nil_append] at O
              have cs := O.facts
              try simp only [factsP, cellsP, roomP, foots_cons, foots_nil, foots_append, foot_pt, ptb, ptb_mapA, foot_mapA, factsP_mapA, foot_bun, List.append_nil, List.nil_append, List.cons_append, List.nodup_cons, List.nodup_nil, List.mem_cons, List.not_mem_nil, List.mem_singleton, List.forall_mem_cons, not_or, not_false_eq_true, and_true, true_and, or_false, false_or, forall_eq_or_imp, forall_eq, implies_true, Nat.zero_add, Nat.reduceAdd, and_assoc, ptb_listA, factsP_listA, factsP_packsA, ptb_packsA, upd_listA8, upd_packsA, Nat.mul_one, upd_bun8, ptb_bun8, factsP_bun8, byteCells, packCells] at cs
              go_wp2_with fail
              go_meet
              have hq0 : (ql.length : Int) < room := by have := HQ0.out; omega
              refine ⟨by rw [if_pos hq0], ps ++ [⟨oi, of, ot, B, d, ol⟩], A2, c2, fun _ => Tw.snoc (p := ⟨oi, of, ot, B, d, ol⟩) (q := ⟨oi, of, ot, oA, oc, ol⟩) ⟨rfl, rfl, rfl, rfl, HRD.out, hol⟩ HT.out, fun h => absurd hq0 (by omega), by simp; omega, O⟩
            · obtain rfl : (ps.length : Int) = room := by omega
              have CP := Lib.hid (fun W a b d e hW => i_Put_no W ib IA ic ps a b d e hW)
              simp only [inbL] at CP
              have hq0 : ¬ (ql.length : Int) < (ps.length : Int) := by have := HLEN.out; omega
              have HQ0 := Lib.hid hq0
              clear hq0 hfull
              skip
              have cs := O.facts
              try simp only [factsP, cellsP, roomP, foots_cons, foots_nil, foots_append, foot_pt, ptb, ptb_mapA, foot_mapA, factsP_mapA, foot_bun, List.append_nil, List.nil_append, List.cons_append, List.nodup_cons, List.nodup_nil, List.mem_cons, List.not_mem_nil, List.mem_singleton, List.forall_mem_cons, not_or, not_false_eq_true, and_true, true_and, or_false, false_or, forall_eq_or_imp, forall_eq, implies_true, Nat.zero_add, Nat.reduceAdd, and_assoc, ptb_listA, factsP_listA, factsP_packsA, ptb_packsA, upd_listA8, upd_packsA, Nat.mul_one, upd_bun8, ptb_bun8, factsP_bun8, byteCells, packCells] at cs
              go_wp2_with fail
              first | apply Mem.atCall | apply Mem.atCode | apply Mem.atList
              case h => repeat' (first | (with_reducible exact O) | (with_reducible apply Mem.drew) | (with_reducible apply Mem.drewN) | (with_reducible apply Mem.ext) | (with_reducible apply Mem.alloc) | (with_reducible apply Mem.setCell) | (simp only [ptb, ptb_upd, foots_cons, List.mem_cons, World.size_alloc, size_ext, World.size_setCell, true_or, or_true, eq_self_iff_true, ptb_listA, ptb_packsA, ptb_bun8]))
              case' k =>
                intro y3 O'
                (try clear O)
                have O := O'
                clear O'
                (first | simp only [sel, rst, List.cons_append, List.nil_append, World.size_alloc, size_ext, World.size_setCell, size_setMap, World.size_drew, size_drewN, upd, List.set_cons_zero, List.set_cons_succ, if_true, if_false, reduceIte, not_false_eq_true, ne_lt0, ne_lt1, ne_lt2, ne_lt3, ne_lt4, upd_listA8, upd_packsA, upd_bun8, cs] at O | simp only [sel, rst, List.cons_append, List.nil_append, World.size_alloc, size_ext, World.size_setCell, size_setMap, World.size_drew, size_drewN, upd, List.set_cons_zero, List.set_cons_succ, if_true, if_false, reduceIte, not_false_eq_true, ne_lt0, ne_lt1, ne_lt2, ne_lt3, ne_lt4, upd_listA8, upd_packsA, upd_bun8] at O | skip)
                (try clear cs)
                (try clear v1)
                (try clear v2)
                (try clear v3)
              refine (CP.out _ _ _ _ _ (O.pre [false, false, false, true, true, true])).mono ?_
              rintro e y4 ⟨rfl, o⟩
              replace O := O.callp [] o
              clear o
              simp only [put, List.cons_append, List.nil_append] at O
              have cs := O.facts
              try simp only [factsP, cellsP, roomP, foots_cons, foots_nil, foots_append, foot_pt, ptb, ptb_mapA, foot_mapA, factsP_mapA, foot_bun, List.append_nil, List.nil_append, List.cons_append, List.nodup_cons, List.nodup_nil, List.mem_cons, List.not_mem_nil, List.mem_singleton, List.forall_mem_cons, not_or, not_false_eq_true, and_true, true_and, or_false, false_or, forall_eq_or_imp, forall_eq, implies_true, Nat.zero_add, Nat.reduceAdd, and_assoc, ptb_listA, factsP_listA, factsP_packsA, ptb_packsA, upd_listA8, upd_packsA, Nat.mul_one, upd_bun8, ptb_bun8, factsP_bun8, byteCells, packCells] at cs
              go_wp2_with fail
              go_meet
              have hq0 : ¬ (ql.length : Int) < (ps.length : Int) := by have := HQ0.out; omega
              exact ⟨by rw [if_neg hq0], ps, IA, ic, fun h => absurd h hq0, fun _ => HT.out, by omega, O⟩
          case rest =>
            clear O
            obtain ⟨rfl, ps', IA', ic', hTy, hTn, hpr', O⟩ := hcut
            have HTY := Lib.hid hTy
            have HTN := Lib.hid hTn
            clear hTy hTn
            generalize hrv : (if (ql.length : Int) < room then (0 : Int) else 81) = rv
            have HRV := Lib.hid hrv
            clear hrv
            skip
            have cs := O.facts
            try simp only [factsP, cellsP, roomP, foots_cons, foots_nil, foots_append, foot_pt, ptb, ptb_mapA, foot_mapA, factsP_mapA, foot_bun, List.append_nil, List.nil_append, List.cons_append, List.nodup_cons, List.nodup_nil, List.mem_cons, List.not_mem_nil, List.mem_singleton, List.forall_mem_cons, not_or, not_false_eq_true, and_true, true_and, or_false, false_or, forall_eq_or_imp, forall_eq, implies_true, Nat.zero_add, Nat.reduceAdd, and_assoc, ptb_listA, factsP_listA, factsP_packsA, ptb_packsA, upd_listA8, upd_packsA, Nat.mul_one, upd_bun8, ptb_bun8, factsP_bun8, byteCells, packCells] at cs
            go_wp2_with fail
            clear cs
            go_loopw [14] (fun s14 wr => ∃ (k : Nat) (yl : List UInt8), k ≤ ol.length ∧ s14 = .int .i64 k ∧ Mem w [] wr [bytesA A1 c1 yl, .pt ub [.int .u64 oi, .int .i64 of, .int .i64 ot, .slice A1 ol.length c1] 34, .pt pb [.int .u64 oi, .int .i64 of, .int .i64 ot, .slice oA ol.length oc] 34, .pt ib [.int .i64 room, .slice IA' ps'.length ic'] 82, pksA IA' ic' ps', packsA ps', bun [A]] ∧ Hid (yl.length = ol.length)) (fun s14 _ => ol.length - (intOf s14).toNat)
            case atStart => exact ⟨0, ol, by omega, rfl, O, Lib.hid rfl⟩
            case round =>
              clear O
              obtain ⟨k, yl, hkl, rfl, O, HYN⟩ := hrel
              by_cases hlt : k < ol.length
              · obtain ⟨x0, hx0⟩ : ∃ x, yl[k]? = some x := ⟨_, List.getElem?_eq_getElem (by rw [HYN.out]; exact hlt)⟩
                obtain ⟨g, rfl, _⟩ := listA_get (cs := byteCells) (fun _ => rfl) (O.hold (bytesA A1 c1 yl) (by simp)) hx0
                have HX0 := Lib.hid hx0
                clear hx0
                have hlti : (k : Int) < ol.length := by omega
                skip
                have cs := O.facts
                try simp only [factsP, cellsP, roomP, foots_cons, foots_nil, foots_append, foot_pt, ptb, ptb_mapA, foot_mapA, factsP_mapA, foot_bun, List.append_nil, List.nil_append, List.cons_append, List.nodup_cons, List.nodup_nil, List.mem_cons, List.not_mem_nil, List.mem_singleton, List.forall_mem_cons, not_or, not_false_eq_true, and_true, true_and, or_false, false_or, forall_eq_or_imp, forall_eq, implies_true, Nat.zero_add, Nat.reduceAdd, and_assoc, ptb_listA, factsP_listA, factsP_packsA, ptb_packsA, upd_listA8, upd_packsA, Nat.mul_one, upd_bun8, ptb_bun8, factsP_bun8, byteCells, packCells] at cs
                have v1 := (listA_at (cs := byteCells) (fun _ => rfl) (O.hold (bytesA (some ⟨g, 0, none⟩) c1 yl) (by simp)) HX0.out)
                try simp only [cellsQ, roomP, and_assoc, and_true, true_and, Nat.add_zero, Nat.zero_add, Nat.reduceAdd, factsP, cellsP, roomP, foots_cons, foots_nil, foots_append, foot_pt, ptb, ptb_mapA, foot_mapA, factsP_mapA, foot_bun, List.append_nil, List.nil_append, List.cons_append, List.nodup_cons, List.nodup_nil, List.mem_cons, List.not_mem_nil, List.mem_singleton, List.forall_mem_cons, not_or, not_false_eq_true, and_true, true_and, or_false, false_or, forall_eq_or_imp, forall_eq, implies_true, Nat.zero_add, Nat.reduceAdd, and_assoc, ptb_listA, factsP_listA, factsP_packsA, ptb_packsA, upd_listA8, upd_packsA, Nat.mul_one, upd_bun8, ptb_bun8, factsP_bun8, byteCells, packCells] at v1
                go_upto_region 19 with fail
                have O2 := Mem.listSet (size := 1) (a' := (9 : UInt8)) (j := 0) (v := .int .u8 9) (cs := byteCells) (fun _ => rfl) O HX0.out (by omega) rfl
                rw [Nat.mul_one, Nat.add_zero] at O2
                generalize wr.setCell ⟨g, k, none⟩ (.int .u8 9) = wq at O2 ⊢
                clear O cs v1
                have O := O2
                clear O2
                skip
                have cs := O.facts
                try simp only [factsP, cellsP, roomP, foots_cons, foots_nil, foots_append, foot_pt, ptb, ptb_mapA, foot_mapA, factsP_mapA, foot_bun, List.append_nil, List.nil_append, List.cons_append, List.nodup_cons, List.nodup_nil, List.mem_cons, List.not_mem_nil, List.mem_singleton, List.forall_mem_cons, not_or, not_false_eq_true, and_true, true_and, or_false, false_or, forall_eq_or_imp, forall_eq, implies_true, Nat.zero_add, Nat.reduceAdd, and_assoc, ptb_listA, factsP_listA, factsP_packsA, ptb_packsA, upd_listA8, upd_packsA, Nat.mul_one, upd_bun8, ptb_bun8, factsP_bun8, byteCells, packCells] at cs
                go_wp2_with fail
                go_roundw
                case rel => exact ⟨k + 1, yl.set k 9, by omega, by go_num, O, Lib.hid (by rw [List.length_set]; exact HYN.out)⟩
                case measure => simp [intOf]; omega
              · obtain rfl : k = ol.length := by omega
                have CL := Lib.hid (fun W hW => i_Len W ib room IA' ic' ps' hW)
                simp only [inbL] at CL
                by_cases hq : (ql.length : Int) < room
                · have hr0 : rv = 0 := by rw [← HRV.out, if_pos hq]
                  subst hr0
                  have HTL := Lib.hid (HTY.out hq)
                  have hne : ((ps'.length : Int) != (ql.length : Int) + 1) = false := by
                    have := HTL.out.len
                    simp only [List.length_append, List.length_cons, List.length_nil, Nat.zero_add] at this
                    simp [this]
                  have HQL : Hid (ql.length ≤ 100000) := Lib.hid (by omega)
                  skip
                  have cs := O.facts
                  try simp only [factsP, cellsP, roomP, foots_cons, foots_nil, foots_append, foot_pt, ptb, ptb_mapA, foot_mapA, factsP_mapA, foot_bun, List.append_nil, List.nil_append, List.cons_append, List.nodup_cons, List.nodup_nil, List.mem_cons, List.not_mem_nil, List.mem_singleton, List.forall_mem_cons, not_or, not_false_eq_true, and_true, true_and, or_false, false_or, forall_eq_or_imp, forall_eq, implies_true, Nat.zero_add, Nat.reduceAdd, and_assoc, ptb_listA, factsP_listA, factsP_packsA, ptb_packsA, upd_listA8, upd_packsA, Nat.mul_one, upd_bun8, ptb_bun8, factsP_bun8, byteCells, packCells] at cs
                  go_upto_region 24 with fail
                  clear cs
                  replace O := (((((O).front [false, false, false, false, false, true]).front [false, false, false, false, false, true]).front [false, false, false, false, false, true]).front [false, false, false, false, false, true]).front [false, false, false, false, false, false, true]
                  simp only [Tk.sel, rst, List.cons_append, List.nil_append] at O
                  replace O := O.sel [true, true, true, true, true]
                  simp only [Tk.sel] at O
                  have OA := Mem.open_ O
                  simp only [List.cons_append, List.nil_append] at OA
                  have O3 := OA.alloc [.int .u64 oi, .int .i64 of, .int .i64 ot, .slice oA ol.length oc] 34
                  clear OA
                  have cs := O.facts
                  try simp only [factsP, cellsP, roomP, foots_cons, foots_nil, foots_append, foot_pt, ptb, ptb_mapA, foot_mapA, factsP_mapA, foot_bun, List.append_nil, List.nil_append, List.cons_append, List.nodup_cons, List.nodup_nil, List.mem_cons, List.not_mem_nil, List.mem_singleton, List.forall_mem_cons, not_or, not_false_eq_true, and_true, true_and, or_false, false_or, forall_eq_or_imp, forall_eq, implies_true, Nat.zero_add, Nat.reduceAdd, and_assoc, ptb_listA, factsP_listA, factsP_packsA, ptb_packsA, upd_listA8, upd_packsA, Nat.mul_one, upd_bun8, ptb_bun8, factsP_bun8, byteCells, packCells] at cs
                  go_upto_region 25 with ((at_builtin; refine packTy.wl_push HC.out O3.swap rfl rfl rfl ⟨oi, of, ot, oA, oc, ol⟩ rfl (src_one (x := (⟨oi, of, ot, oA, oc, ol⟩ : PackM)) (fun _ => rfl) O3 (List.mem_cons_self ..)) HQL.out ?_; intro a' cap' A' w6 hC6 O6))
                  have HC6 := Lib.hid hC6
                  clear cs O hC6 O3
                  have O := O6
                  clear O6
                  replace O := Mem.shut (l := [A']) O
                  replace O := ((((O).front [false, false, false, false, false, true]).front [false, false, false, false, false, true]).front [false, false, false, false, false, true]).front [false, false, false, true]
                  simp only [Tk.sel, rst, List.cons_append, List.nil_append] at O
                  replace O := O.sel [true, true, true, true]
                  simp only [Tk.sel] at O
                  skip
                  have cs := O.facts
                  try simp only [factsP, cellsP, roomP, foots_cons, foots_nil, foots_append, foot_pt, ptb, ptb_mapA, foot_mapA, factsP_mapA, foot_bun, List.append_nil, List.nil_append, List.cons_append, List.nodup_cons, List.nodup_nil, List.mem_cons, List.not_mem_nil, List.mem_singleton, List.forall_mem_cons, not_or, not_false_eq_true, and_true, true_and, or_false, false_or, forall_eq_or_imp, forall_eq, implies_true, Nat.zero_add, Nat.reduceAdd, and_assoc, ptb_listA, factsP_listA, factsP_packsA, ptb_packsA, upd_listA8, upd_packsA, Nat.mul_one, upd_bun8, ptb_bun8, factsP_bun8, byteCells, packCells] at cs
                  have v1 := VE.out _ O.fr
                  try simp only [cellsQ, roomP, and_assoc, and_true, true_and, Nat.add_zero, Nat.zero_add, Nat.reduceAdd, factsP, cellsP, roomP, foots_cons, foots_nil, foots_append, foot_pt, ptb, ptb_mapA, foot_mapA, factsP_mapA, foot_bun, List.append_nil, List.nil_append, List.cons_append, List.nodup_cons, List.nodup_nil, List.mem_cons, List.not_mem_nil, List.mem_singleton, List.forall_mem_cons, not_or, not_false_eq_true, and_true, true_and, or_false, false_or, forall_eq_or_imp, forall_eq, implies_true, Nat.zero_add, Nat.reduceAdd, and_assoc, ptb_listA, factsP_listA, factsP_packsA, ptb_packsA, upd_listA8, upd_packsA, Nat.mul_one, upd_bun8, ptb_bun8, factsP_bun8, byteCells, packCells] at v1
                  go_wp2_with fail
                  first | apply Mem.atCall | apply Mem.atCode | apply Mem.atList
                  case h => repeat' (first | (with_reducible exact O) | (with_reducible apply Mem.drew) | (with_reducible apply Mem.drewN) | (with_reducible apply Mem.ext) | (with_reducible apply Mem.alloc) | (with_reducible apply Mem.setCell) | (simp only [ptb, ptb_upd, foots_cons, List.mem_cons, World.size_alloc, size_ext, World.size_setCell, true_or, or_true, eq_self_iff_true, ptb_listA, ptb_packsA, ptb_bun8]))
                  case' k =>
                    intro y5 O'
                    (try clear O)
                    have O := O'
                    clear O'
                    (first | simp only [sel, rst, List.cons_append, List.nil_append, World.size_alloc, size_ext, World.size_setCell, size_setMap, World.size_drew, size_drewN, upd, List.set_cons_zero, List.set_cons_succ, if_true, if_false, reduceIte, not_false_eq_true, ne_lt0, ne_lt1, ne_lt2, ne_lt3, ne_lt4, upd_listA8, upd_packsA, upd_bun8, cs] at O | simp only [sel, rst, List.cons_append, List.nil_append, World.size_alloc, size_ext, World.size_setCell, size_setMap, World.size_drew, size_drewN, upd, List.set_cons_zero, List.set_cons_succ, if_true, if_false, reduceIte, not_false_eq_true, ne_lt0, ne_lt1, ne_lt2, ne_lt3, ne_lt4, upd_listA8, upd_packsA, upd_bun8] at O | skip)
                    (try clear cs)
                    (try clear v1)
                    (try clear v2)
                    (try clear v3)
                  refine (CL.out _ (O.pre [false, true, true, true])).mono ?_
                  rintro e y6 ⟨rfl, o⟩
                  replace O := O.callp [] o
                  clear o
                  simp only [put, List.cons_append, List.nil_append] at O
                  have cs := O.facts
                  try simp only [factsP, cellsP, roomP, foots_cons, foots_nil, foots_append, foot_pt, ptb, ptb_mapA, foot_mapA, factsP_mapA, foot_bun, List.append_nil, List.nil_append, List.cons_append, List.nodup_cons, List.nodup_nil, List.mem_cons, List.not_mem_nil, List.mem_singleton, List.forall_mem_cons, not_or, not_false_eq_true, and_true, true_and, or_false, false_or, forall_eq_or_imp, forall_eq, implies_true, Nat.zero_add, Nat.reduceAdd, and_assoc, ptb_listA, factsP_listA, factsP_packsA, ptb_packsA, upd_listA8, upd_packsA, Nat.mul_one, upd_bun8, ptb_bun8, factsP_bun8, byteCells, packCells] at cs
                  have v1 := VE.out _ O.fr
                  try simp only [cellsQ, roomP, and_assoc, and_true, true_and, Nat.add_zero, Nat.zero_add, Nat.reduceAdd, factsP, cellsP, roomP, foots_cons, foots_nil, foots_append, foot_pt, ptb, ptb_mapA, foot_mapA, factsP_mapA, foot_bun, List.append_nil, List.nil_append, List.cons_append, List.nodup_cons, List.nodup_nil, List.mem_cons, List.not_mem_nil, List.mem_singleton, List.forall_mem_cons, not_or, not_false_eq_true, and_true, true_and, or_false, false_or, forall_eq_or_imp, forall_eq, implies_true, Nat.zero_add, Nat.reduceAdd, and_assoc, ptb_listA, factsP_listA, factsP_packsA, ptb_packsA, upd_listA8, upd_packsA, Nat.mul_one, upd_bun8, ptb_bun8, factsP_bun8, byteCells, packCells] at v1
                  go_wp2_with fail
                  go_roundw
                  case rel =>
                    replace O := ((((O).front [true]).front [false, false, false, true]).front [false, false, false, true]).front [false, false, false, true]
                    simp only [Tk.sel, rst, List.cons_append, List.nil_append] at O
                    replace O := O.sel [true, true, true, true]
                    simp only [Tk.sel] at O
                    exact ⟨i + 1, by omega, by go_num, ps', ql ++ [⟨oi, of, ot, oA, oc, ol⟩], A', IA', ic', HC6.out, HTL.out, hpr', O⟩
                  case measure => simp [intOf]; omega
                · have hr0 : rv = 81 := by rw [← HRV.out, if_neg hq]
                  subst hr0
                  have HTL := Lib.hid (HTN.out (by omega))
                  have hne : ((ps'.length : Int) != (ql.length : Int)) = false := by
                    have := HTL.out.len
                    simp [this]
                  skip
                  have cs := O.facts
                  try simp only [factsP, cellsP, roomP, foots_cons, foots_nil, foots_append, foot_pt, ptb, ptb_mapA, foot_mapA, factsP_mapA, foot_bun, List.append_nil, List.nil_append, List.cons_append, List.nodup_cons, List.nodup_nil, List.mem_cons, List.not_mem_nil, List.mem_singleton, List.forall_mem_cons, not_or, not_false_eq_true, and_true, true_and, or_false, false_or, forall_eq_or_imp, forall_eq, implies_true, Nat.zero_add, Nat.reduceAdd, and_assoc, ptb_listA, factsP_listA, factsP_packsA, ptb_packsA, upd_listA8, upd_packsA, Nat.mul_one, upd_bun8, ptb_bun8, factsP_bun8, byteCells, packCells] at cs
                  have v1 := VE.out _ O.fr
                  try simp only [cellsQ, roomP, and_assoc, and_true, true_and, Nat.add_zero, Nat.zero_add, Nat.reduceAdd, factsP, cellsP, roomP, foots_cons, foots_nil, foots_append, foot_pt, ptb, ptb_mapA, foot_mapA, factsP_mapA, foot_bun, List.append_nil, List.nil_append, List.cons_append, List.nodup_cons, List.nodup_nil, List.mem_cons, List.not_mem_nil, List.mem_singleton, List.forall_mem_cons, not_or, not_false_eq_true, and_true, true_and, or_false, false_or, forall_eq_or_imp, forall_eq, implies_true, Nat.zero_add, Nat.reduceAdd, and_assoc, ptb_listA, factsP_listA, factsP_packsA, ptb_packsA, upd_listA8, upd_packsA, Nat.mul_one, upd_bun8, ptb_bun8, factsP_bun8, byteCells, packCells] at v1
                  go_wp2_with fail
                  first | apply Mem.atCall | apply Mem.atCode | apply Mem.atList
                  case h => repeat' (first | (with_reducible exact O) | (with_reducible apply Mem.drew) | (with_reducible apply Mem.drewN) | (with_reducible apply Mem.ext) | (with_reducible apply Mem.alloc) | (with_reducible apply Mem.setCell) | (simp only [ptb, ptb_upd, foots_cons, List.mem_cons, World.size_alloc, size_ext, World.size_setCell, true_or, or_true, eq_self_iff_true, ptb_listA, ptb_packsA, ptb_bun8]))
                  case' k =>
                    intro y5 O'
                    (try clear O)
                    have O := O'
                    clear O'
                    (first | simp only [sel, rst, List.cons_append, List.nil_append, World.size_alloc, size_ext, World.size_setCell, size_setMap, World.size_drew, size_drewN, upd, List.set_cons_zero, List.set_cons_succ, if_true, if_false, reduceIte, not_false_eq_true, ne_lt0, ne_lt1, ne_lt2, ne_lt3, ne_lt4, upd_listA8, upd_packsA, upd_bun8, cs] at O | simp only [sel, rst, List.cons_append, List.nil_append, World.size_alloc, size_ext, World.size_setCell, size_setMap, World.size_drew, size_drewN, upd, List.set_cons_zero, List.set_cons_succ, if_true, if_false, reduceIte, not_false_eq_true, ne_lt0, ne_lt1, ne_lt2, ne_lt3, ne_lt4, upd_listA8, upd_packsA, upd_bun8] at O | skip)
                    (try clear cs)
                    (try clear v1)
                    (try clear v2)
                    (try clear v3)
                  refine (CL.out _ (O.pre [false, false, false, true, true, true])).mono ?_
                  rintro e y6 ⟨rfl, o⟩
                  replace O := O.callp [] o
                  clear o
                  simp only [put, List.cons_append, List.nil_append] at O
                  have cs := O.facts
                  try simp only [factsP, cellsP, roomP, foots_cons, foots_nil, foots_append, foot_pt, ptb, ptb_mapA, foot_mapA, factsP_mapA, foot_bun, List.append_nil, List.nil_append, List.cons_append, List.nodup_cons, List.nodup_nil, List.mem_cons, List.not_mem_nil, List.mem_singleton, List.forall_mem_cons, not_or, not_false_eq_true, and_true, true_and, or_false, false_or, forall_eq_or_imp, forall_eq, implies_true, Nat.zero_add, Nat.reduceAdd, and_assoc, ptb_listA, factsP_listA, factsP_packsA, ptb_packsA, upd_listA8, upd_packsA, Nat.mul_one, upd_bun8, ptb_bun8, factsP_bun8, byteCells, packCells] at cs
                  have v1 := VE.out _ O.fr
                  try simp only [cellsQ, roomP, and_assoc, and_true, true_and, Nat.add_zero, Nat.zero_add, Nat.reduceAdd, factsP, cellsP, roomP, foots_cons, foots_nil, foots_append, foot_pt, ptb, ptb_mapA, foot_mapA, factsP_mapA, foot_bun, List.append_nil, List.nil_append, List.cons_append, List.nodup_cons, List.nodup_nil, List.mem_cons, List.not_mem_nil, List.mem_singleton, List.forall_mem_cons, not_or, not_false_eq_true, and_true, true_and, or_false, false_or, forall_eq_or_imp, forall_eq, implies_true, Nat.zero_add, Nat.reduceAdd, and_assoc, ptb_listA, factsP_listA, factsP_packsA, ptb_packsA, upd_listA8, upd_packsA, Nat.mul_one, upd_bun8, ptb_bun8, factsP_bun8, byteCells, packCells] at v1
                  go_wp2_with fail
                  go_roundw
                  case rel => exact ⟨i + 1, by omega, by go_num, ps', ql, A, IA', ic', HC.out, HTL.out, hpr', O.sel [false, false, false, true, true, true, true]⟩
                  case measure => simp [intOf]; omega
          -- ]]PUT
        · have k1b : (ok == 1) = false := by simpa using k1
          by_cases k2 : ok = 2
          · -- [[TAKE
            subst k2
            cases ps with
            | nil =>
              cases ql with
              | cons q qs => exact HT.out.elim
              | nil =>
                have CT := Lib.hid (fun W hW => i_Take_no W ib room IA ic hW)
                have CL := Lib.hid (fun W hW => i_Len W ib room IA ic [] hW)
                have CS := Lib.hid (fun W => q_Same W 0 0 0 [] none none 0 0 (by simp) Rd.nil Rd.nil)
                simp only [inbL, List.length_nil, noPack, PackM.val] at CT CL CS O
                skip
                have cs := O.facts
                try simp only [factsP, cellsP, roomP, foots_cons, foots_nil, foots_append, foot_pt, ptb, ptb_mapA, foot_mapA, factsP_mapA, foot_bun, List.append_nil, List.nil_append, List.cons_append, List.nodup_cons, List.nodup_nil, List.mem_cons, List.not_mem_nil, List.mem_singleton, List.forall_mem_cons, not_or, not_false_eq_true, and_true, true_and, or_false, false_or, forall_eq_or_imp, forall_eq, implies_true, Nat.zero_add, Nat.reduceAdd, and_assoc, ptb_listA, factsP_listA, factsP_packsA, ptb_packsA, upd_listA8, upd_packsA, Nat.mul_one, upd_bun8, ptb_bun8, factsP_bun8, byteCells, packCells] at cs
                have v1 := VE.out _ O.fr
                try simp only [cellsQ, roomP, and_assoc, and_true, true_and, Nat.add_zero, Nat.zero_add, Nat.reduceAdd, factsP, cellsP, roomP, foots_cons, foots_nil, foots_append, foot_pt, ptb, ptb_mapA, foot_mapA, factsP_mapA, foot_bun, List.append_nil, List.nil_append, List.cons_append, List.nodup_cons, List.nodup_nil, List.mem_cons, List.not_mem_nil, List.mem_singleton, List.forall_mem_cons, not_or, not_false_eq_true, and_true, true_and, or_false, false_or, forall_eq_or_imp, forall_eq, implies_true, Nat.zero_add, Nat.reduceAdd, and_assoc, ptb_listA, factsP_listA, factsP_packsA, ptb_packsA, upd_listA8, upd_packsA, Nat.mul_one, upd_bun8, ptb_bun8, factsP_bun8, byteCells, packCells] at v1
                go_wp2_with fail
                first | apply Mem.atCall | apply Mem.atCode | apply Mem.atList
                case h => repeat' (first | (with_reducible exact O) | (with_reducible apply Mem.drew) | (with_reducible apply Mem.drewN) | (with_reducible apply Mem.ext) | (with_reducible apply Mem.alloc) | (with_reducible apply Mem.setCell) | (simp only [ptb, ptb_upd, foots_cons, List.mem_cons, World.size_alloc, size_ext, World.size_setCell, true_or, or_true, eq_self_iff_true, ptb_listA, ptb_packsA, ptb_bun8]))
                case' k =>
                  intro y1 O'
                  (try clear O)
                  have O := O'
                  clear O'
                  (first | simp only [sel, rst, List.cons_append, List.nil_append, World.size_alloc, size_ext, World.size_setCell, size_setMap, World.size_drew, size_drewN, upd, List.set_cons_zero, List.set_cons_succ, if_true, if_false, reduceIte, not_false_eq_true, ne_lt0, ne_lt1, ne_lt2, ne_lt3, ne_lt4, upd_listA8, upd_packsA, upd_bun8, cs] at O | simp only [sel, rst, List.cons_append, List.nil_append, World.size_alloc, size_ext, World.size_setCell, size_setMap, World.size_drew, size_drewN, upd, List.set_cons_zero, List.set_cons_succ, if_true, if_false, reduceIte, not_false_eq_true, ne_lt0, ne_lt1, ne_lt2, ne_lt3, ne_lt4, upd_listA8, upd_packsA, upd_bun8] at O | skip)
                  (try clear cs)
                  (try clear v1)
                  (try clear v2)
                  (try clear v3)
                refine (CT.out _ (O.pre [true, true, true])).mono ?_
                rintro e y2 ⟨rfl, o⟩
                replace O := O.callp [] o
                clear o
                simp only [put, List.cons_append, List.nil_append] at O
                skip
                have cs := O.facts
                try simp only [factsP, cellsP, roomP, foots_cons, foots_nil, foots_append, foot_pt, ptb, ptb_mapA, foot_mapA, factsP_mapA, foot_bun, List.append_nil, List.nil_append, List.cons_append, List.nodup_cons, List.nodup_nil, List.mem_cons, List.not_mem_nil, List.mem_singleton, List.forall_mem_cons, not_or, not_false_eq_true, and_true, true_and, or_false, false_or, forall_eq_or_imp, forall_eq, implies_true, Nat.zero_add, Nat.reduceAdd, and_assoc, ptb_listA, factsP_listA, factsP_packsA, ptb_packsA, upd_listA8, upd_packsA, Nat.mul_one, upd_bun8, ptb_bun8, factsP_bun8, byteCells, packCells] at cs
                go_upto_region 30 with fail
                first | apply Mem.atCall | apply Mem.atCode | apply Mem.atList
                case h => repeat' (first | (with_reducible exact O) | (with_reducible apply Mem.drew) | (with_reducible apply Mem.drewN) | (with_reducible apply Mem.ext) | (with_reducible apply Mem.alloc) | (with_reducible apply Mem.setCell) | (simp only [ptb, ptb_upd, foots_cons, List.mem_cons, World.size_alloc, size_ext, World.size_setCell, true_or, or_true, eq_self_iff_true, ptb_listA, ptb_packsA, ptb_bun8]))
                case' k =>
                  intro y3 O'
                  (try clear O)
                  have O := O'
                  clear O'
                  (first | simp only [sel, rst, List.cons_append, List.nil_append, World.size_alloc, size_ext, World.size_setCell, size_setMap, World.size_drew, size_drewN, upd, List.set_cons_zero, List.set_cons_succ, if_true, if_false, reduceIte, not_false_eq_true, ne_lt0, ne_lt1, ne_lt2, ne_lt3, ne_lt4, upd_listA8, upd_packsA, upd_bun8, cs] at O | simp only [sel, rst, List.cons_append, List.nil_append, World.size_alloc, size_ext, World.size_setCell, size_setMap, World.size_drew, size_drewN, upd, List.set_cons_zero, List.set_cons_succ, if_true, if_false, reduceIte, not_false_eq_true, ne_lt0, ne_lt1, ne_lt2, ne_lt3, ne_lt4, upd_listA8, upd_packsA, upd_bun8] at O | skip)
                  (try clear cs)
                  (try clear v1)
                  (try clear v2)
                  (try clear v3)
                have cs := O.facts
                try simp only [factsP, cellsP, roomP, foots_cons, foots_nil, foots_append, foot_pt, ptb, ptb_mapA, foot_mapA, factsP_mapA, foot_bun, List.append_nil, List.nil_append, List.cons_append, List.nodup_cons, List.nodup_nil, List.mem_cons, List.not_mem_nil, List.mem_singleton, List.forall_mem_cons, not_or, not_false_eq_true, and_true, true_and, or_false, false_or, forall_eq_or_imp, forall_eq, implies_true, Nat.zero_add, Nat.reduceAdd, and_assoc, ptb_listA, factsP_listA, factsP_packsA, ptb_packsA, upd_listA8, upd_packsA, Nat.mul_one, upd_bun8, ptb_bun8, factsP_bun8, byteCells, packCells] at cs
                go_wp2_with fail
                first | apply Mem.atCall | apply Mem.atCode | apply Mem.atList
                case h => repeat' (first | (with_reducible exact O) | (with_reducible apply Mem.drew) | (with_reducible apply Mem.drewN) | (with_reducible apply Mem.ext) | (with_reducible apply Mem.alloc) | (with_reducible apply Mem.setCell) | (simp only [ptb, ptb_upd, foots_cons, List.mem_cons, World.size_alloc, size_ext, World.size_setCell, true_or, or_true, eq_self_iff_true, ptb_listA, ptb_packsA, ptb_bun8]))
                case' k =>
                  intro y4 O'
                  (try clear O)
                  have O := O'
                  clear O'
                  (first | simp only [sel, rst, List.cons_append, List.nil_append, World.size_alloc, size_ext, World.size_setCell, size_setMap, World.size_drew, size_drewN, upd, List.set_cons_zero, List.set_cons_succ, if_true, if_false, reduceIte, not_false_eq_true, ne_lt0, ne_lt1, ne_lt2, ne_lt3, ne_lt4, upd_listA8, upd_packsA, upd_bun8, cs] at O | simp only [sel, rst, List.cons_append, List.nil_append, World.size_alloc, size_ext, World.size_setCell, size_setMap, World.size_drew, size_drewN, upd, List.set_cons_zero, List.set_cons_succ, if_true, if_false, reduceIte, not_false_eq_true, ne_lt0, ne_lt1, ne_lt2, ne_lt3, ne_lt4, upd_listA8, upd_packsA, upd_bun8] at O | skip)
                  (try clear cs)
                  (try clear v1)
                  (try clear v2)
                  (try clear v3)
                refine (CS.out _).mono ?_
                rintro e y5 ⟨rfl, o⟩
                replace O := O.callp [] o
                clear o
                simp only [put, List.cons_append, List.nil_append] at O
                have cs := O.facts
                try simp only [factsP, cellsP, roomP, foots_cons, foots_nil, foots_append, foot_pt, ptb, ptb_mapA, foot_mapA, factsP_mapA, foot_bun, List.append_nil, List.nil_append, List.cons_append, List.nodup_cons, List.nodup_nil, List.mem_cons, List.not_mem_nil, List.mem_singleton, List.forall_mem_cons, not_or, not_false_eq_true, and_true, true_and, or_false, false_or, forall_eq_or_imp, forall_eq, implies_true, Nat.zero_add, Nat.reduceAdd, and_assoc, ptb_listA, factsP_listA, factsP_packsA, ptb_packsA, upd_listA8, upd_packsA, Nat.mul_one, upd_bun8, ptb_bun8, factsP_bun8, byteCells, packCells] at cs
                go_wp2_with fail
                first | apply Mem.atCall | apply Mem.atCode | apply Mem.atList
                case h => repeat' (first | (with_reducible exact O) | (with_reducible apply Mem.drew) | (with_reducible apply Mem.drewN) | (with_reducible apply Mem.ext) | (with_reducible apply Mem.alloc) | (with_reducible apply Mem.setCell) | (simp only [ptb, ptb_upd, foots_cons, List.mem_cons, World.size_alloc, size_ext, World.size_setCell, true_or, or_true, eq_self_iff_true, ptb_listA, ptb_packsA, ptb_bun8]))
                case' k =>
                  intro y6 O'
                  (try clear O)
                  have O := O'
                  clear O'
                  (first | simp only [sel, rst, List.cons_append, List.nil_append, World.size_alloc, size_ext, World.size_setCell, size_setMap, World.size_drew, size_drewN, upd, List.set_cons_zero, List.set_cons_succ, if_true, if_false, reduceIte, not_false_eq_true, ne_lt0, ne_lt1, ne_lt2, ne_lt3, ne_lt4, upd_listA8, upd_packsA, upd_bun8, cs] at O | simp only [sel, rst, List.cons_append, List.nil_append, World.size_alloc, size_ext, World.size_setCell, size_setMap, World.size_drew, size_drewN, upd, List.set_cons_zero, List.set_cons_succ, if_true, if_false, reduceIte, not_false_eq_true, ne_lt0, ne_lt1, ne_lt2, ne_lt3, ne_lt4, upd_listA8, upd_packsA, upd_bun8] at O | skip)
                  (try clear cs)
                  (try clear v1)
                  (try clear v2)
                  (try clear v3)
                refine (CL.out _ (O.pre [false, false, true, true, true])).mono ?_
                rintro e y7 ⟨rfl, o⟩
                replace O := O.callp [] o
                clear o
                simp only [put, List.cons_append, List.nil_append] at O
                have cs := O.facts
                try simp only [factsP, cellsP, roomP, foots_cons, foots_nil, foots_append, foot_pt, ptb, ptb_mapA, foot_mapA, factsP_mapA, foot_bun, List.append_nil, List.nil_append, List.cons_append, List.nodup_cons, List.nodup_nil, List.mem_cons, List.not_mem_nil, List.mem_singleton, List.forall_mem_cons, not_or, not_false_eq_true, and_true, true_and, or_false, false_or, forall_eq_or_imp, forall_eq, implies_true, Nat.zero_add, Nat.reduceAdd, and_assoc, ptb_listA, factsP_listA, factsP_packsA, ptb_packsA, upd_listA8, upd_packsA, Nat.mul_one, upd_bun8, ptb_bun8, factsP_bun8, byteCells, packCells] at cs
                go_wp2_with fail
                go_roundw
                case rel => exact ⟨i + 1, by omega, by go_num, [], [], A, IA, ic, HC.out, trivial, hpr, O.sel [false, false, true, true, true, true]⟩
                case measure => simp [intOf]; omega
            | cons p ps =>
              cases ql with
              | nil => exact HT.out.elim
              | cons q qs =>
                obtain ⟨⟨e1, e2, e3, e4, hrq, hlq⟩, hT2⟩ := HT.out
                obtain ⟨g, C, k, hsl, hcl, htl⟩ := HC.out.head packLen
                injection hsl with s1 s2 s3
                subst s1 s3
                obtain ⟨pid, pf, pt, pA, pc, pl⟩ := p
                obtain ⟨qid, qf, qt, qA, qd, qb⟩ := q
                simp only at e1 e2 e3 e4 hrq hlq
                subst e1 e2 e3 e4
                have HT2 := Lib.hid hT2
                have HCL := Lib.hid hcl
                have HTLL := Lib.hid htl
                have HRQ := Lib.hid hrq
                have CT := Lib.hid (fun W hW => i_Take W ib room IA ic ⟨pid, pf, pt, pA, pc, pl⟩ ps hW)
                have CL := Lib.hid (fun W hW => i_Len W ib room IA ic ps hW)
                have CS := Lib.hid (fun W (hp : Rd W pA pl) (hq : Rd W qA pl) => q_Same W pid pf pt pl pA qA pc qd (by omega) hp hq)
                simp only [inbL, PackM.val, List.length_cons, List.cons_append, List.nil_append] at CT CL CS O
                simp only [List.length_cons]
                have hne : ((ps.length : Int) != (qs.length : Int)) = false := by
                  have := HT2.out.len
                  simp [this]
                have h0i : (0 : Int) < (qs.length : Int) + 1 := by omega
                have h1i : (1 : Int) ≤ (qs.length : Int) + 1 := by omega
                clear hT2 hcl htl hrq HT HLEN HC s2
                skip
                have cs := O.facts
                try simp only [factsP, cellsP, roomP, foots_cons, foots_nil, foots_append, foot_pt, ptb, ptb_mapA, foot_mapA, factsP_mapA, foot_bun, List.append_nil, List.nil_append, List.cons_append, List.nodup_cons, List.nodup_nil, List.mem_cons, List.not_mem_nil, List.mem_singleton, List.forall_mem_cons, not_or, not_false_eq_true, and_true, true_and, or_false, false_or, forall_eq_or_imp, forall_eq, implies_true, Nat.zero_add, Nat.reduceAdd, and_assoc, ptb_listA, factsP_listA, factsP_packsA, ptb_packsA, upd_listA8, upd_packsA, Nat.mul_one, upd_bun8, ptb_bun8, factsP_bun8, byteCells, packCells] at cs
                have v1 := VE.out _ O.fr
                try simp only [cellsQ, roomP, and_assoc, and_true, true_and, Nat.add_zero, Nat.zero_add, Nat.reduceAdd, factsP, cellsP, roomP, foots_cons, foots_nil, foots_append, foot_pt, ptb, ptb_mapA, foot_mapA, factsP_mapA, foot_bun, List.append_nil, List.nil_append, List.cons_append, List.nodup_cons, List.nodup_nil, List.mem_cons, List.not_mem_nil, List.mem_singleton, List.forall_mem_cons, not_or, not_false_eq_true, and_true, true_and, or_false, false_or, forall_eq_or_imp, forall_eq, implies_true, Nat.zero_add, Nat.reduceAdd, and_assoc, ptb_listA, factsP_listA, factsP_packsA, ptb_packsA, upd_listA8, upd_packsA, Nat.mul_one, upd_bun8, ptb_bun8, factsP_bun8, byteCells, packCells] at v1
                go_wp2_with fail
                first | apply Mem.atCall | apply Mem.atCode | apply Mem.atList
                case h => repeat' (first | (with_reducible exact O) | (with_reducible apply Mem.drew) | (with_reducible apply Mem.drewN) | (with_reducible apply Mem.ext) | (with_reducible apply Mem.alloc) | (with_reducible apply Mem.setCell) | (simp only [ptb, ptb_upd, foots_cons, List.mem_cons, World.size_alloc, size_ext, World.size_setCell, true_or, or_true, eq_self_iff_true, ptb_listA, ptb_packsA, ptb_bun8]))
                case' k =>
                  intro y1 O'
                  (try clear O)
                  have O := O'
                  clear O'
                  (first | simp only [sel, rst, List.cons_append, List.nil_append, World.size_alloc, size_ext, World.size_setCell, size_setMap, World.size_drew, size_drewN, upd, List.set_cons_zero, List.set_cons_succ, if_true, if_false, reduceIte, not_false_eq_true, ne_lt0, ne_lt1, ne_lt2, ne_lt3, ne_lt4, upd_listA8, upd_packsA, upd_bun8, cs] at O | simp only [sel, rst, List.cons_append, List.nil_append, World.size_alloc, size_ext, World.size_setCell, size_setMap, World.size_drew, size_drewN, upd, List.set_cons_zero, List.set_cons_succ, if_true, if_false, reduceIte, not_false_eq_true, ne_lt0, ne_lt1, ne_lt2, ne_lt3, ne_lt4, upd_listA8, upd_packsA, upd_bun8] at O | skip)
                  (try clear cs)
                  (try clear v1)
                  (try clear v2)
                  (try clear v3)
                refine (CT.out _ (O.pre [true, true, true, false])).mono ?_
                rintro e y2 ⟨rfl, o⟩
                replace O := O.callp [true, true, true, false] o
                clear o
                simp only [put, List.cons_append, List.nil_append] at O
                skip
                have cs := O.facts
                try simp only [factsP, cellsP, roomP, foots_cons, foots_nil, foots_append, foot_pt, ptb, ptb_mapA, foot_mapA, factsP_mapA, foot_bun, List.append_nil, List.nil_append, List.cons_append, List.nodup_cons, List.nodup_nil, List.mem_cons, List.not_mem_nil, List.mem_singleton, List.forall_mem_cons, not_or, not_false_eq_true, and_true, true_and, or_false, false_or, forall_eq_or_imp, forall_eq, implies_true, Nat.zero_add, Nat.reduceAdd, and_assoc, ptb_listA, factsP_listA, factsP_packsA, ptb_packsA, upd_listA8, upd_packsA, Nat.mul_one, upd_bun8, ptb_bun8, factsP_bun8, byteCells, packCells] at cs
                go_upto_region 28 with fail
                first | apply Mem.atCall | apply Mem.atCode | apply Mem.atList
                case h => repeat' (first | (with_reducible exact O) | (with_reducible apply Mem.drew) | (with_reducible apply Mem.drewN) | (with_reducible apply Mem.ext) | (with_reducible apply Mem.alloc) | (with_reducible apply Mem.setCell) | (simp only [ptb, ptb_upd, foots_cons, List.mem_cons, World.size_alloc, size_ext, World.size_setCell, true_or, or_true, eq_self_iff_true, ptb_listA, ptb_packsA, ptb_bun8]))
                case' k =>
                  intro y3 O'
                  (try clear O)
                  have O := O'
                  clear O'
                  (first | simp only [sel, rst, List.cons_append, List.nil_append, World.size_alloc, size_ext, World.size_setCell, size_setMap, World.size_drew, size_drewN, upd, List.set_cons_zero, List.set_cons_succ, if_true, if_false, reduceIte, not_false_eq_true, ne_lt0, ne_lt1, ne_lt2, ne_lt3, ne_lt4, upd_listA8, upd_packsA, upd_bun8, cs] at O | simp only [sel, rst, List.cons_append, List.nil_append, World.size_alloc, size_ext, World.size_setCell, size_setMap, World.size_drew, size_drewN, upd, List.set_cons_zero, List.set_cons_succ, if_true, if_false, reduceIte, not_false_eq_true, ne_lt0, ne_lt1, ne_lt2, ne_lt3, ne_lt4, upd_listA8, upd_packsA, upd_bun8] at O | skip)
                  (try clear cs)
                  (try clear v1)
                  (try clear v2)
                  (try clear v3)
                skip
                have cs := O.facts
                try simp only [factsP, cellsP, roomP, foots_cons, foots_nil, foots_append, foot_pt, ptb, ptb_mapA, foot_mapA, factsP_mapA, foot_bun, List.append_nil, List.nil_append, List.cons_append, List.nodup_cons, List.nodup_nil, List.mem_cons, List.not_mem_nil, List.mem_singleton, List.forall_mem_cons, not_or, not_false_eq_true, and_true, true_and, or_false, false_or, forall_eq_or_imp, forall_eq, implies_true, Nat.zero_add, Nat.reduceAdd, and_assoc, ptb_listA, factsP_listA, factsP_packsA, ptb_packsA, upd_listA8, upd_packsA, Nat.mul_one, upd_bun8, ptb_bun8, factsP_bun8, byteCells, packCells] at cs
                have v1 := (HCL.out _ (O.hold (bun [A]) (by simp [Tk.sel]) A (by simp)))
                try simp only [cellsQ, roomP, and_assoc, and_true, true_and, Nat.add_zero, Nat.zero_add, Nat.reduceAdd, factsP, cellsP, roomP, foots_cons, foots_nil, foots_append, foot_pt, ptb, ptb_mapA, foot_mapA, factsP_mapA, foot_bun, List.append_nil, List.nil_append, List.cons_append, List.nodup_cons, List.nodup_nil, List.mem_cons, List.not_mem_nil, List.mem_singleton, List.forall_mem_cons, not_or, not_false_eq_true, and_true, true_and, or_false, false_or, forall_eq_or_imp, forall_eq, implies_true, Nat.zero_add, Nat.reduceAdd, and_assoc, ptb_listA, factsP_listA, factsP_packsA, ptb_packsA, upd_listA8, upd_packsA, Nat.mul_one, upd_bun8, ptb_bun8, factsP_bun8, byteCells, packCells] at v1
                go_upto_region 30 with fail
                first | apply Mem.atCall | apply Mem.atCode | apply Mem.atList
                case h => repeat' (first | (with_reducible exact O) | (with_reducible apply Mem.drew) | (with_reducible apply Mem.drewN) | (with_reducible apply Mem.ext) | (with_reducible apply Mem.alloc) | (with_reducible apply Mem.setCell) | (simp only [ptb, ptb_upd, foots_cons, List.mem_cons, World.size_alloc, size_ext, World.size_setCell, true_or, or_true, eq_self_iff_true, ptb_listA, ptb_packsA, ptb_bun8]))
                case' k =>
                  intro y4 O'
                  (try clear O)
                  have O := O'
                  clear O'
                  (first | simp only [sel, rst, List.cons_append, List.nil_append, World.size_alloc, size_ext, World.size_setCell, size_setMap, World.size_drew, size_drewN, upd, List.set_cons_zero, List.set_cons_succ, if_true, if_false, reduceIte, not_false_eq_true, ne_lt0, ne_lt1, ne_lt2, ne_lt3, ne_lt4, upd_listA8, upd_packsA, upd_bun8, cs] at O | simp only [sel, rst, List.cons_append, List.nil_append, World.size_alloc, size_ext, World.size_setCell, size_setMap, World.size_drew, size_drewN, upd, List.set_cons_zero, List.set_cons_succ, if_true, if_false, reduceIte, not_false_eq_true, ne_lt0, ne_lt1, ne_lt2, ne_lt3, ne_lt4, upd_listA8, upd_packsA, upd_bun8] at O | skip)
                  (try clear cs)
                  (try clear v1)
                  (try clear v2)
                  (try clear v3)
                skip
                have cs := O.facts
                try simp only [factsP, cellsP, roomP, foots_cons, foots_nil, foots_append, foot_pt, ptb, ptb_mapA, foot_mapA, factsP_mapA, foot_bun, List.append_nil, List.nil_append, List.cons_append, List.nodup_cons, List.nodup_nil, List.mem_cons, List.not_mem_nil, List.mem_singleton, List.forall_mem_cons, not_or, not_false_eq_true, and_true, true_and, or_false, false_or, forall_eq_or_imp, forall_eq, implies_true, Nat.zero_add, Nat.reduceAdd, and_assoc, ptb_listA, factsP_listA, factsP_packsA, ptb_packsA, upd_listA8, upd_packsA, Nat.mul_one, upd_bun8, ptb_bun8, factsP_bun8, byteCells, packCells] at cs
                go_wp2_with fail
                first | apply Mem.atCall | apply Mem.atCode | apply Mem.atList
                case h => repeat' (first | (with_reducible exact O) | (with_reducible apply Mem.drew) | (with_reducible apply Mem.drewN) | (with_reducible apply Mem.ext) | (with_reducible apply Mem.alloc) | (with_reducible apply Mem.setCell) | (simp only [ptb, ptb_upd, foots_cons, List.mem_cons, World.size_alloc, size_ext, World.size_setCell, true_or, or_true, eq_self_iff_true, ptb_listA, ptb_packsA, ptb_bun8]))
                case' k =>
                  intro y5 O'
                  (try clear O)
                  have O := O'
                  clear O'
                  (first | simp only [sel, rst, List.cons_append, List.nil_append, World.size_alloc, size_ext, World.size_setCell, size_setMap, World.size_drew, size_drewN, upd, List.set_cons_zero, List.set_cons_succ, if_true, if_false, reduceIte, not_false_eq_true, ne_lt0, ne_lt1, ne_lt2, ne_lt3, ne_lt4, upd_listA8, upd_packsA, upd_bun8, cs] at O | simp only [sel, rst, List.cons_append, List.nil_append, World.size_alloc, size_ext, World.size_setCell, size_setMap, World.size_drew, size_drewN, upd, List.set_cons_zero, List.set_cons_succ, if_true, if_false, reduceIte, not_false_eq_true, ne_lt0, ne_lt1, ne_lt2, ne_lt3, ne_lt4, upd_listA8, upd_packsA, upd_bun8] at O | skip)
                  (try clear cs)
                  (try clear v1)
                  (try clear v2)
                  (try clear v3)
                refine (CS.out _ (listA_rd (O.hold (bytesA pA pc pl) (by simp))) (HRQ.out.fr O.fr)).mono ?_
                rintro e y6 ⟨rfl, o⟩
                replace O := O.callp [] o
                clear o
                simp only [put, List.cons_append, List.nil_append] at O
                by_cases hC1 : qc = 1
                · subst hC1
                  skip
                  have cs := O.facts
                  try simp only [factsP, cellsP, roomP, foots_cons, foots_nil, foots_append, foot_pt, ptb, ptb_mapA, foot_mapA, factsP_mapA, foot_bun, List.append_nil, List.nil_append, List.cons_append, List.nodup_cons, List.nodup_nil, List.mem_cons, List.not_mem_nil, List.mem_singleton, List.forall_mem_cons, not_or, not_false_eq_true, and_true, true_and, or_false, false_or, forall_eq_or_imp, forall_eq, implies_true, Nat.zero_add, Nat.reduceAdd, and_assoc, ptb_listA, factsP_listA, factsP_packsA, ptb_packsA, upd_listA8, upd_packsA, Nat.mul_one, upd_bun8, ptb_bun8, factsP_bun8, byteCells, packCells] at cs
                  go_wp2_with fail
                  first | apply Mem.atCall | apply Mem.atCode | apply Mem.atList
                  case h => repeat' (first | (with_reducible exact O) | (with_reducible apply Mem.drew) | (with_reducible apply Mem.drewN) | (with_reducible apply Mem.ext) | (with_reducible apply Mem.alloc) | (with_reducible apply Mem.setCell) | (simp only [ptb, ptb_upd, foots_cons, List.mem_cons, World.size_alloc, size_ext, World.size_setCell, true_or, or_true, eq_self_iff_true, ptb_listA, ptb_packsA, ptb_bun8]))
                  case' k =>
                    intro y7 O'
                    (try clear O)
                    have O := O'
                    clear O'
                    (first | simp only [sel, rst, List.cons_append, List.nil_append, World.size_alloc, size_ext, World.size_setCell, size_setMap, World.size_drew, size_drewN, upd, List.set_cons_zero, List.set_cons_succ, if_true, if_false, reduceIte, not_false_eq_true, ne_lt0, ne_lt1, ne_lt2, ne_lt3, ne_lt4, upd_listA8, upd_packsA, upd_bun8, cs] at O | simp only [sel, rst, List.cons_append, List.nil_append, World.size_alloc, size_ext, World.size_setCell, size_setMap, World.size_drew, size_drewN, upd, List.set_cons_zero, List.set_cons_succ, if_true, if_false, reduceIte, not_false_eq_true, ne_lt0, ne_lt1, ne_lt2, ne_lt3, ne_lt4, upd_listA8, upd_packsA, upd_bun8] at O | skip)
                    (try clear cs)
                    (try clear v1)
                    (try clear v2)
                    (try clear v3)
                  refine (CL.out _ (O.pre [false, false, true, true, true])).mono ?_
                  rintro e y8 ⟨rfl, o⟩
                  replace O := O.callp [] o
                  clear o
                  simp only [put, List.cons_append, List.nil_append] at O
                  have cs := O.facts
                  try simp only [factsP, cellsP, roomP, foots_cons, foots_nil, foots_append, foot_pt, ptb, ptb_mapA, foot_mapA, factsP_mapA, foot_bun, List.append_nil, List.nil_append, List.cons_append, List.nodup_cons, List.nodup_nil, List.mem_cons, List.not_mem_nil, List.mem_singleton, List.forall_mem_cons, not_or, not_false_eq_true, and_true, true_and, or_false, false_or, forall_eq_or_imp, forall_eq, implies_true, Nat.zero_add, Nat.reduceAdd, and_assoc, ptb_listA, factsP_listA, factsP_packsA, ptb_packsA, upd_listA8, upd_packsA, Nat.mul_one, upd_bun8, ptb_bun8, factsP_bun8, byteCells, packCells] at cs
                  go_wp2_with fail
                  go_roundw
                  case rel =>
                    replace O := ((((O).front [false, false, false, false, true]).front [false, false, false, false, true]).front [false, false, false, false, true]).front [false, false, false, false, false, true]
                    simp only [Tk.sel, rst, List.cons_append, List.nil_append] at O
                    replace O := O.sel [true, true, true, true]
                    simp only [Tk.sel] at O
                    obtain ⟨A', hA1, hA2⟩ := HTLL.out _ _ _ _ (by have OO := Mem.open_ O; simpa using OO)
                    try rw [if_pos rfl] at hA1
                    have O := Mem.shut (l := [A']) hA2
                    replace O := ((((O).front [true]).front [false, false, false, true]).front [false, false, false, true]).front [false, false, false, true]
                    simp only [Tk.sel, rst, List.cons_append, List.nil_append] at O
                    replace O := O.sel [true, true, true, true]
                    simp only [Tk.sel] at O
                    exact ⟨i + 1, by omega, by go_num, ps, qs, A', IA, ic, hA1, HT2.out, by simp at hpr; omega, O⟩
                  case measure => simp [intOf]; omega
                · have hC2 : (qc = 1) = False := by simp [hC1]
                  skip
                  have cs := O.facts
                  try simp only [factsP, cellsP, roomP, foots_cons, foots_nil, foots_append, foot_pt, ptb, ptb_mapA, foot_mapA, factsP_mapA, foot_bun, List.append_nil, List.nil_append, List.cons_append, List.nodup_cons, List.nodup_nil, List.mem_cons, List.not_mem_nil, List.mem_singleton, List.forall_mem_cons, not_or, not_false_eq_true, and_true, true_and, or_false, false_or, forall_eq_or_imp, forall_eq, implies_true, Nat.zero_add, Nat.reduceAdd, and_assoc, ptb_listA, factsP_listA, factsP_packsA, ptb_packsA, upd_listA8, upd_packsA, Nat.mul_one, upd_bun8, ptb_bun8, factsP_bun8, byteCells, packCells] at cs
                  go_wp2_with fail
                  first | apply Mem.atCall | apply Mem.atCode | apply Mem.atList
                  case h => repeat' (first | (with_reducible exact O) | (with_reducible apply Mem.drew) | (with_reducible apply Mem.drewN) | (with_reducible apply Mem.ext) | (with_reducible apply Mem.alloc) | (with_reducible apply Mem.setCell) | (simp only [ptb, ptb_upd, foots_cons, List.mem_cons, World.size_alloc, size_ext, World.size_setCell, true_or, or_true, eq_self_iff_true, ptb_listA, ptb_packsA, ptb_bun8]))
                  case' k =>
                    intro y7 O'
                    (try clear O)
                    have O := O'
                    clear O'
                    (first | simp only [sel, rst, List.cons_append, List.nil_append, World.size_alloc, size_ext, World.size_setCell, size_setMap, World.size_drew, size_drewN, upd, List.set_cons_zero, List.set_cons_succ, if_true, if_false, reduceIte, not_false_eq_true, ne_lt0, ne_lt1, ne_lt2, ne_lt3, ne_lt4, upd_listA8, upd_packsA, upd_bun8, cs] at O | simp only [sel, rst, List.cons_append, List.nil_append, World.size_alloc, size_ext, World.size_setCell, size_setMap, World.size_drew, size_drewN, upd, List.set_cons_zero, List.set_cons_succ, if_true, if_false, reduceIte, not_false_eq_true, ne_lt0, ne_lt1, ne_lt2, ne_lt3, ne_lt4, upd_listA8, upd_packsA, upd_bun8] at O | skip)
                    (try clear cs)
                    (try clear v1)
                    (try clear v2)
                    (try clear v3)
                  refine (CL.out _ (O.pre [false, false, true, true, true])).mono ?_
                  rintro e y8 ⟨rfl, o⟩
                  replace O := O.callp [] o
                  clear o
                  simp only [put, List.cons_append, List.nil_append] at O
                  have cs := O.facts
                  try simp only [factsP, cellsP, roomP, foots_cons, foots_nil, foots_append, foot_pt, ptb, ptb_mapA, foot_mapA, factsP_mapA, foot_bun, List.append_nil, List.nil_append, List.cons_append, List.nodup_cons, List.nodup_nil, List.mem_cons, List.not_mem_nil, List.mem_singleton, List.forall_mem_cons, not_or, not_false_eq_true, and_true, true_and, or_false, false_or, forall_eq_or_imp, forall_eq, implies_true, Nat.zero_add, Nat.reduceAdd, and_assoc, ptb_listA, factsP_listA, factsP_packsA, ptb_packsA, upd_listA8, upd_packsA, Nat.mul_one, upd_bun8, ptb_bun8, factsP_bun8, byteCells, packCells] at cs
                  go_wp2_with fail
                  go_roundw
                  case rel =>
                    replace O := ((((O).front [false, false, false, false, true]).front [false, false, false, false, true]).front [false, false, false, false, true]).front [false, false, false, false, false, true]
                    simp only [Tk.sel, rst, List.cons_append, List.nil_append] at O
                    replace O := O.sel [true, true, true, true]
                    simp only [Tk.sel] at O
                    obtain ⟨A', hA1, hA2⟩ := HTLL.out _ _ _ _ (by have OO := Mem.open_ O; simpa using OO)
                    rw [if_neg hC1] at hA1
                    have O := Mem.shut (l := [A']) hA2
                    replace O := ((((O).front [true]).front [false, false, false, true]).front [false, false, false, true]).front [false, false, false, true]
                    simp only [Tk.sel, rst, List.cons_append, List.nil_append] at O
                    replace O := O.sel [true, true, true, true]
                    simp only [Tk.sel] at O
                    exact ⟨i + 1, by omega, by go_num, ps, qs, A', IA, ic, hA1, HT2.out, by simp at hpr; omega, O⟩
                  case measure => simp [intOf]; omega
            -- ]]TAKE
          · -- [[NONE
            have k2b : (ok == 2) = false := by simpa using k2
            have CL := Lib.hid (fun W hW => i_Len W ib room IA ic ps hW)
            simp only [inbL] at CL
            have hne : ((ps.length : Int) != (ql.length : Int)) = false := by simp [HLEN.out]
            clear k1 k2
            skip
            have cs := O.facts
            try simp only [factsP, cellsP, roomP, foots_cons, foots_nil, foots_append, foot_pt, ptb, ptb_mapA, foot_mapA, factsP_mapA, foot_bun, List.append_nil, List.nil_append, List.cons_append, List.nodup_cons, List.nodup_nil, List.mem_cons, List.not_mem_nil, List.mem_singleton, List.forall_mem_cons, not_or, not_false_eq_true, and_true, true_and, or_false, false_or, forall_eq_or_imp, forall_eq, implies_true, Nat.zero_add, Nat.reduceAdd, and_assoc, ptb_listA, factsP_listA, factsP_packsA, ptb_packsA, upd_listA8, upd_packsA, Nat.mul_one, upd_bun8, ptb_bun8, factsP_bun8, byteCells, packCells] at cs
            have v1 := VE.out _ O.fr
            try simp only [cellsQ, roomP, and_assoc, and_true, true_and, Nat.add_zero, Nat.zero_add, Nat.reduceAdd, factsP, cellsP, roomP, foots_cons, foots_nil, foots_append, foot_pt, ptb, ptb_mapA, foot_mapA, factsP_mapA, foot_bun, List.append_nil, List.nil_append, List.cons_append, List.nodup_cons, List.nodup_nil, List.mem_cons, List.not_mem_nil, List.mem_singleton, List.forall_mem_cons, not_or, not_false_eq_true, and_true, true_and, or_false, false_or, forall_eq_or_imp, forall_eq, implies_true, Nat.zero_add, Nat.reduceAdd, and_assoc, ptb_listA, factsP_listA, factsP_packsA, ptb_packsA, upd_listA8, upd_packsA, Nat.mul_one, upd_bun8, ptb_bun8, factsP_bun8, byteCells, packCells] at v1
            go_wp2_with fail
            first | apply Mem.atCall | apply Mem.atCode | apply Mem.atList
            case h => repeat' (first | (with_reducible exact O) | (with_reducible apply Mem.drew) | (with_reducible apply Mem.drewN) | (with_reducible apply Mem.ext) | (with_reducible apply Mem.alloc) | (with_reducible apply Mem.setCell) | (simp only [ptb, ptb_upd, foots_cons, List.mem_cons, World.size_alloc, size_ext, World.size_setCell, true_or, or_true, eq_self_iff_true, ptb_listA, ptb_packsA, ptb_bun8]))
            case' k =>
              intro y1 O'
              (try clear O)
              have O := O'
              clear O'
              (first | simp only [sel, rst, List.cons_append, List.nil_append, World.size_alloc, size_ext, World.size_setCell, size_setMap, World.size_drew, size_drewN, upd, List.set_cons_zero, List.set_cons_succ, if_true, if_false, reduceIte, not_false_eq_true, ne_lt0, ne_lt1, ne_lt2, ne_lt3, ne_lt4, upd_listA8, upd_packsA, upd_bun8, cs] at O | simp only [sel, rst, List.cons_append, List.nil_append, World.size_alloc, size_ext, World.size_setCell, size_setMap, World.size_drew, size_drewN, upd, List.set_cons_zero, List.set_cons_succ, if_true, if_false, reduceIte, not_false_eq_true, ne_lt0, ne_lt1, ne_lt2, ne_lt3, ne_lt4, upd_listA8, upd_packsA, upd_bun8] at O | skip)
              (try clear cs)
              (try clear v1)
              (try clear v2)
              (try clear v3)
            refine (CL.out _ (O.pre [true, true, true])).mono ?_
            rintro e y2 ⟨rfl, o⟩
            replace O := O.callp [] o
            clear o
            simp only [put, List.cons_append, List.nil_append] at O
            have cs := O.facts
            try simp only [factsP, cellsP, roomP, foots_cons, foots_nil, foots_append, foot_pt, ptb, ptb_mapA, foot_mapA, factsP_mapA, foot_bun, List.append_nil, List.nil_append, List.cons_append, List.nodup_cons, List.nodup_nil, List.mem_cons, List.not_mem_nil, List.mem_singleton, List.forall_mem_cons, not_or, not_false_eq_true, and_true, true_and, or_false, false_or, forall_eq_or_imp, forall_eq, implies_true, Nat.zero_add, Nat.reduceAdd, and_assoc, ptb_listA, factsP_listA, factsP_packsA, ptb_packsA, upd_listA8, upd_packsA, Nat.mul_one, upd_bun8, ptb_bun8, factsP_bun8, byteCells, packCells] at cs
            have v1 := VE.out _ O.fr
            try simp only [cellsQ, roomP, and_assoc, and_true, true_and, Nat.add_zero, Nat.zero_add, Nat.reduceAdd, factsP, cellsP, roomP, foots_cons, foots_nil, foots_append, foot_pt, ptb, ptb_mapA, foot_mapA, factsP_mapA, foot_bun, List.append_nil, List.nil_append, List.cons_append, List.nodup_cons, List.nodup_nil, List.mem_cons, List.not_mem_nil, List.mem_singleton, List.forall_mem_cons, not_or, not_false_eq_true, and_true, true_and, or_false, false_or, forall_eq_or_imp, forall_eq, implies_true, Nat.zero_add, Nat.reduceAdd, and_assoc, ptb_listA, factsP_listA, factsP_packsA, ptb_packsA, upd_listA8, upd_packsA, Nat.mul_one, upd_bun8, ptb_bun8, factsP_bun8, byteCells, packCells] at v1
            go_wp2_with fail
            go_roundw
            case rel => exact ⟨i + 1, by omega, by go_num, ps, ql, A, IA, ic, HC.out, HT.out, hpr, O⟩
            case measure => simp [intOf]; omega
            -- ]]NONE
      · obtain ⟨ps, ql, A, IA, ic, hC, hT, hpr, O⟩ := hPI
        by_cases c1 : i < ops.length
        · have c1i : (i : Int) < ops.length := by omega
          have c2i : ¬ (i : Int) < 400 := by omega
          clear hk
          skip
          have cs := O.facts
          try simp only [factsP, cellsP, roomP, foots_cons, foots_nil, foots_append, foot_pt, ptb, ptb_mapA, foot_mapA, factsP_mapA, foot_bun, List.append_nil, List.nil_append, List.cons_append, List.nodup_cons, List.nodup_nil, List.mem_cons, List.not_mem_nil, List.mem_singleton, List.forall_mem_cons, not_or, not_false_eq_true, and_true, true_and, or_false, false_or, forall_eq_or_imp, forall_eq, implies_true, Nat.zero_add, Nat.reduceAdd, and_assoc, ptb_listA, factsP_listA, factsP_packsA, ptb_packsA, upd_listA8, upd_packsA, Nat.mul_one, upd_bun8, ptb_bun8, factsP_bun8, byteCells, packCells] at cs
          go_wp2_with fail
          go_ret
          exact ⟨rfl, O.fr0.fr.below rfl⟩
        · have c1i : ¬ (i : Int) < ops.length := by omega
          clear hk
          skip
          have cs := O.facts
          try simp only [factsP, cellsP, roomP, foots_cons, foots_nil, foots_append, foot_pt, ptb, ptb_mapA, foot_mapA, factsP_mapA, foot_bun, List.append_nil, List.nil_append, List.cons_append, List.nodup_cons, List.nodup_nil, List.mem_cons, List.not_mem_nil, List.mem_singleton, List.forall_mem_cons, not_or, not_false_eq_true, and_true, true_and, or_false, false_or, forall_eq_or_imp, forall_eq, implies_true, Nat.zero_add, Nat.reduceAdd, and_assoc, ptb_listA, factsP_listA, factsP_packsA, ptb_packsA, upd_listA8, upd_packsA, Nat.mul_one, upd_bun8, ptb_bun8, factsP_bun8, byteCells, packCells] at cs
          go_wp2_with fail
          go_ret
          exact ⟨rfl, O.fr0.fr.below rfl⟩
end Go.Proofs.Ytojpcfjlenjfbaa
