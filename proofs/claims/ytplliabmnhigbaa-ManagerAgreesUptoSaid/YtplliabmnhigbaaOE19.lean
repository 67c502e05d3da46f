/- What a manager that hears stays (for ManagerOrder, ManagerAgrees). -/
import Derived.Test.YtplliabmnhigbaaPick19
set_option linter.unusedVariables false
set_option linter.unusedSimpArgs false
namespace Go.Proofs.Ytplliabmnhigbaa
open Go.RowKit Go.WideShapes Go.ChangeShapes Go.Tk
def i64Cells (i : Int) : List Value := [.int .i64 i]
theorem _root_.Go.Tk.Mem.frOver {w w' W : World} {L : List Asn} (O : Mem w [] w' L) (bs : List Bool) (f : Fr (foots (Tk.sel bs L)) w' W) : Fr [] w W :=
  O.fr.trans f (fun b hb => .inr (((O.sel bs).mine b hb).resolve_left (by simp)))
structure OE (t : TxS) (fr : Nat → Nat → Int) (E : EntM) : Prop where
  id : E.id = t.id
  right : E.tx.right = true
  core : E.s.map ItS.core = t.s.map ItS.core
  good : E.good
  kn : Kn E.id E.s (plnOf E.ls) E.d
  ord : Ord E.id E.s fr (plnOf E.ls)
theorem OE.lnok {t : TxS} {fr : Nat → Nat → Int} {E : EntM} (h : OE t fr E) (hnd : (keysOf E.ls).Nodup) : ∀ x ∈ E.ls, LnOk x.2.l := fun x hx => by
  obtain ⟨j, hj⟩ := List.mem_iff_getElem?.1 hx
  have h1 := mget_at hnd (k := x.1) (v := x.2) hj
  have h2 : mget (plnOf E.ls) x.1 = some x.2.l := by rw [mget_pln, h1]; rfl
  exact h.kn.ok _ _ h2
theorem OE.new {t : TxS} {fr : Nat → Nat → Int} {E : EntM} (h : E.new t) (ht : ∃ w, t.At w) (hr : t.r.right = true) : OE t fr E := by
  obtain ⟨w, ht⟩ := ht
  obtain ⟨r1, r2, r3, r4, r5⟩ := TxR.right_parts hr
  have hlen := core_len h.core
  have hok : itemsOk (E.s.map ItS.r) = true := by rw [core_itemsOk h.core]; exact r5
  have h8 : E.s.length ≤ 8 := by rw [hlen]; simpa [TxS.r] using r4
  have h1 : 1 ≤ E.s.length := by rw [hlen]; simpa [TxS.r] using r3
  have hpl : plnOf E.ls = (visits E.id E.s).map (fun v => (v.i, newL 3)) := by rw [h.id]; exact h.ls
  have hk := Kn.zero (id := E.id) hpl h1 hok
  refine ⟨h.id, ?_, h.core, ⟨by rw [h.id]; exact ht.wid, by rw [h.m0]; exact ht.w0, by rw [h.m1]; exact ht.w1, by rw [h.m2]; exact ht.w2, h8, fun x hx => right_bucket hok hx, fun v hv => ?_⟩, by rw [h.d]; exact hk, Ord.zero hpl⟩
  · unfold EntM.tx
    rw [h.id, h.client, h.m0, h.m1, h.m2, core_tx_right (v := .slice t.A t.s.length t.c) h.core]
    exact hr
  · obtain ⟨x, hx, hr', hinc, hi⟩ := visits_mem hv
    have := hk.has v.k v.r x hx hr' hinc
    rw [← hi, mget_pln] at this
    simpa using this
theorem OE.hear {t : TxS} {fr : Nat → Nat → Int} {E : EntM} (h : OE t fr E) {a : Nat} (ha : a / 8 < E.s.length) {x : ItS} (hx : E.s[a / 8]? = some x) (hv : readOf (textOf (fr (a / 8) (a / 2 % 4))) ≠ 0) {ls' : List (Inst × LnM)}
    (hl : plnOf ls' = (E.hears x.bucket ((a / 2 % 4 : Nat) : Int) ((a % 2 : Nat) : Int) noB (textOf (fr (a / 8) (a / 2 % 4)))).2.2.1) :
    OE t fr { E with ls := ls', d := (E.hears x.bucket ((a / 2 % 4 : Nat) : Int) ((a % 2 : Nat) : Int) noB (textOf (fr (a / 8) (a / 2 % 4)))).2.2.2 } ∧
    ∀ m, Heared E.id E.s fr (plnOf E.ls) m → Heared E.id E.s fr (plnOf ls') m ∧ (m = a → Heared E.id E.s fr (plnOf ls') (m + 1)) := by
  have hh : E.hears x.bucket ((a / 2 % 4 : Nat) : Int) ((a % 2 : Nat) : Int) noB (textOf (fr (a / 8) (a / 2 % 4))) = hear11 true E.id E.s (plnOf E.ls) E.d x.bucket ((a / 2 % 4 : Nat) : Int) ((a % 2 : Nat) : Int) noB (textOf (fr (a / 8) (a / 2 % 4))) := by
    unfold EntM.hears
    rw [h.right]
  rw [hh] at hl ⊢
  obtain ⟨k1, _⟩ := h.kn.hear x.bucket ((a / 2 % 4 : Nat) : Int) ((a % 2 : Nat) : Int) noB (textOf (fr (a / 8) (a / 2 % 4)))
  obtain ⟨o1, o2⟩ := h.ord.hear h.kn ha hx hv
  rw [← hl] at k1 o1 o2
  refine ⟨⟨h.id, h.right, h.core, ⟨h.good.id, h.good.m0, h.good.m1, h.good.m2, h.good.len, h.good.bk, fun v hv => ?_⟩, k1, o1⟩, o2⟩
  obtain ⟨y, hy, hr', hinc, hi⟩ := visits_mem hv
  have := k1.has v.k v.r y hy hr' hinc
  rw [← hi, mget_pln] at this
  simpa using this
theorem heared_skip {id : Int} {s : List ItS} {fr : Nat → Nat → Int} {pls : List (Inst × Learn11)} {a : Nat} (hv : readOf (textOf (fr (a / 8) (a / 2 % 4))) = 0) (h : Heared id s fr pls a) : Heared id s fr pls (a + 1) := fun p hp x l hx hinc hrd hl => by
  by_cases hpa : p < a
  · exact h p hpa x l hx hinc hrd hl
  · obtain rfl : p = a := by omega
    exact absurd hv hrd
theorem heared_next {P Q : Nat → Prop} {a k N8 : Nat} (h : ∀ m, P m → Q m ∧ (m = a → Q (m + 1))) (hP : P (min k N8)) (hN : 0 < N8) (ha : a = k % N8) : Q (min (k + 1) N8) := by
  by_cases hk : k < N8
  · have e : k % N8 = k := Nat.mod_eq_of_lt hk
    rw [Nat.min_eq_left (by omega)] at hP ⊢
    exact (h k hP).2 (by rw [ha, e])
  · rw [Nat.min_eq_right (by omega)] at hP ⊢
    exact (h _ hP).1
theorem votes_cell {w W : World} {b off : Nat} {f : Nat → Int} (hb : b < w.heap.size) (h : w.cell? ⟨b, off, none⟩ = some (.int .i64 (f 0)) ∧ w.cell? ⟨b, off + 1, none⟩ = some (.int .i64 (f 1)) ∧ w.cell? ⟨b, off + 2, none⟩ = some (.int .i64 (f 2)) ∧ w.cell? ⟨b, off + 3, none⟩ = some (.int .i64 (f 3))) {r : Nat} (hr : r < 4) (fr : Fr [] w W) : roomP b W.heap.size ∧ W.cell? ⟨b, off + r, none⟩ = some (.int .i64 (f r)) := by
  refine ⟨roomP_of (Nat.lt_of_lt_of_le hb fr.size), (fr.cell hb).trans ?_⟩
  have hc : r = 0 ∨ r = 1 ∨ r = 2 ∨ r = 3 := by omega
  rcases hc with rfl | rfl | rfl | rfl
  · exact h.1
  · exact h.2.1
  · exact h.2.2.1
  · exact h.2.2.2
theorem wrapN {m : Nat} (h : m < 1000000) : IntKind.i64.wrap (m : Int) = m := by simp [IntKind.wrap, IntKind.signed, IntKind.bits]; omega
end Go.Proofs.Ytplliabmnhigbaa
