/- GENERAL WORDS, over any program: slices of things of one type ('ElTy'): append, make, an element written whole. -/
import Derived.Test.YtomcekjhehceoaaList
import Derived.Laws.MakeOwn
import Derived.Laws.OwnMore
set_option linter.unusedVariables false
set_option linter.unusedSimpArgs false
namespace Go.Tk
open Go.RowKit

/-- the slice type st has elements of the type e, 'size' cells each -/
structure ElTy {α : Type} (P : Program) (st e : TypeId) (size : Nat) (cs : α → List Value) (z : α) : Prop where
  sl : P.underlying st = some (.slice e)
  inf : (P.info? e).bind (fun i => i.zero.map fun v => (i.size, decide (i.bytes ≤ 1000), decide (v.cells.toList.length = size))) = some (size, true, true)
  zero : (P.info? e).bind (fun i => i.zero.map (·.cells.toList)) = some (cs z)
  pos : 0 < size
  len : ∀ a, (cs a).length = size
  one : ∀ a, ∀ u ∈ cs a, u.oneCell' = true
section
variable {α : Type} {P : Program} {st e : TypeId} {size : Nat} {cs : α → List Value} {z : α}
theorem ElTy.info (T : ElTy P st e size cs z) : ∃ i v, P.info? e = some i ∧ i.zero = some v ∧ i.size = size ∧ i.bytes ≤ 1000 ∧ v.cells.size = size ∧ v.cells.toList = cs z := by
  have h := T.inf
  have h2 := T.zero
  cases hi : P.info? e with
  | none => rw [hi] at h; simp at h
  | some i =>
    rw [hi] at h h2
    cases hz : i.zero with
    | none => simp [hz] at h
    | some v =>
      simp [hz] at h h2
      exact ⟨i, v, rfl, hz, h.1, h.2.1, h.2.2, h2⟩
variable {A : Option Addr} {c : Nat} {l : List α} {w0 w w' : World} {F : List Nat} {L : List Asn} {ops : Array Oper} {rest : List Oper} {o : Oper} {a : Act} {Q : Exit → Act → World → Prop}
theorem ElTy.op_app (T : ElTy P st e size cs z) {K : Act → World → Prop} (h : Mem w0 F w (listA e size cs A c l :: L)) (hgd : o.guard = none) {s x : Operand} (ho : o.op = .call { callee := .builtin .append, args := #[s, x], argTypes := #[st, st] })
    {n0 : Nat} (hl : l.length = n0) (hs : a.eval s = .slice A n0 c) (new : List α) {B : Option Addr} {c2 n : Nat} (hnew : new.length = n) (hx : a.eval x = .slice B n c2) (hsrc : Src w B size n (new.flatMap cs)) (hn : l.length + new.length ≤ 100000000)
    (hK : ∀ A' c' w', Mem w0 F w' (listA e size cs A' c' (l ++ new) :: L) → K (a.put o.dst (.slice A' (l ++ new).length c')) w') : o.wp P a w K Q := by
  obtain ⟨i, v, hi, hz, hsz, hby, hvs, _⟩ := T.info
  subst hnew
  subst hl
  exact oper_append_mem h hgd s x _ ho i v i.bytes T.sl hi hz hsz rfl hvs T.pos hs B c2 new hx hsrc T.one (by unfold maxLen; omega) (Nat.le_trans (Nat.mul_le_mul hn hby) (by omega)) hK
theorem ElTy.if_app (T : ElTy P st e size cs z) {K : Act → World → Prop} (h : Mem w0 F w (listA e size cs A c l :: L)) (hgd : o.guard = none) {s x : Operand} (ho : o.op = .call { callee := .builtin .append, args := #[s, x], argTypes := #[st, st] })
    {n0 : Nat} (hl : l.length = n0) (hs : a.eval s = .slice A n0 c) (new : List α) {B : Option Addr} {c2 n : Nat} (hnew : new.length = n) (hx : a.eval x = .slice B n c2) (hsrc : Src w B size n (new.flatMap cs)) (hn : l.length + new.length ≤ 100000000)
    (hK : ∀ A' c' w', Mem w0 F w' (listA e size cs A' c' (l ++ new) :: L) → K (a.put o.dst (.slice A' (l ++ new).length c')) w') : if Region.wanted o (yielded ops a.tmps) = true then o.wp P a w K Q else K (a.put o.dst undef) w := by
  rw [if_pos (by simp [Region.wanted, hgd])]
  exact T.op_app h hgd ho hl hs new hnew hx hsrc hn hK
theorem ElTy.wl_app (T : ElTy P st e size cs z) (h : Mem w0 F w (listA e size cs A c l :: L)) (hgd : o.guard = none) {s x : Operand} (ho : o.op = .call { callee := .builtin .append, args := #[s, x], argTypes := #[st, st] })
    {n0 : Nat} (hl : l.length = n0) (hs : a.eval s = .slice A n0 c) (new : List α) {B : Option Addr} {c2 n : Nat} (hnew : new.length = n) (hx : a.eval x = .slice B n c2) (hsrc : Src w B size n (new.flatMap cs)) (hn : l.length + new.length ≤ 100000000)
    (hK : ∀ A' c' w', Mem w0 F w' (listA e size cs A' c' (l ++ new) :: L) → wpList P ops Q rest (a.put o.dst (.slice A' (l ++ new).length c')) w') : wpList P ops Q (o :: rest) a w :=
  wpList_plain hgd fun K' hK' => T.op_app h hgd ho hl hs new hnew hx hsrc hn (fun A' c' w' hM => hK' _ _ (hK A' c' w' hM))
theorem madeCells_rep (u : Array Value) (k : Nat) : True := trivial
/-- 'make([]T, n)' -/
theorem ElTy.made (T : ElTy P st e size cs z) (w : World) (n : Nat) (hn : n ≤ 1000000) :
    ∃ o : Obj, (Instr.makeSlice st (.int .i64 n) (.int .i64 n)).run P w = .ok (.slice (some ⟨w.heap.size, 0, none⟩) n n) (w.alloc o) ∧ ∀ (w0 : World) F L, Mem w0 F w L → Mem w0 F (w.alloc o) (listA e size cs (some ⟨w.heap.size, 0, none⟩) n (List.replicate n z) :: L) := by
  obtain ⟨i, v, hi, hz, hsz, hby, hvs, hvz⟩ := T.info
  have hb2 : i.bytes * n ≤ 281474976710656 := Nat.le_trans (Nat.mul_le_mul hby hn) (by omega)
  have hb : (i.bytes : Int) * (n : Int) ≤ 281474976710656 := by
    rw [← Int.natCast_mul]; omega
  have hr := run_make (P := P) w st e i v T.sl hi hz .i64 .i64 n n (by omega) (Int.le_refl _) hb (by omega)
  simp only [Int.toNat_natCast] at hr
  refine ⟨_, hr, fun w0 F L h => ?_⟩
  have hcells : madeCells v.cells (n * i.size) = ((List.replicate n z).flatMap cs).toArray := by
    have hlen : ((List.replicate n z).flatMap cs).length = n * size := by rw [flatMap_len T.len]; simp
    apply Array.ext'
    apply List.ext_getElem?
    intro j
    simp only []
    by_cases hj : j < n * size
    · have hjs : j / size < n := Nat.div_lt_of_lt_mul (by rw [Nat.mul_comm]; exact hj)
      have hjm : j % size < size := Nat.mod_lt _ T.pos
      have e1 := flatMap_at T.len (List.replicate n z) (j / size) z (by rw [List.getElem?_replicate, if_pos hjs]) (j % size) hjm
      rw [show j / size * size + j % size = j by rw [Nat.mul_comm]; exact Nat.div_add_mod j size] at e1
      have e2 : (madeCells v.cells (n * i.size)).toList[j]? = (cs z)[j % size]? := by
        rw [Array.getElem?_toList, ← hvz, Array.getElem?_toList]
        rw [Array.getElem?_eq_getElem (by rw [size_madeCells, hsz]; exact hj), Array.getElem?_eq_getElem (by rw [hvs]; exact hjm)]
        simp [madeCells, hvs, hjm]
      rw [e2]
      exact e1.symm
    · rw [List.getElem?_eq_none (by simp only [Array.length_toList]; rw [size_madeCells, hsz]; omega), List.getElem?_eq_none (by rw [hlen]; omega)]
  have h2 := h.alloc ((List.replicate n z).flatMap cs) e
  rw [hcells]
  have h3 := Mem.listShut (tail := []) (c := n) (l := List.replicate n z) T.len (by simpa using h2) (by simp) (by simp) (by unfold maxLen; omega)
  exact h3
/-- a run of cells is written -/
def setL (b : Nat) : Nat → List Value → List Value → List Value
  | _, [], xs => xs
  | j, v :: vs, xs => setL b (j + 1) vs (xs.set (b + j) v)
def setAll (g b : Nat) : Nat → List Value → World → World
  | _, [], w => w
  | j, v :: vs, w => setAll g b (j + 1) vs (w.setCell ⟨g, b + j, none⟩ v)
theorem setL_mid (X Y : List Value) : ∀ (vs D R : List Value), vs.length = R.length → setL X.length D.length vs (X ++ (D ++ R) ++ Y) = X ++ (D ++ vs) ++ Y
  | [], D, R, h => by
    obtain rfl : R = [] := List.eq_nil_of_length_eq_zero (by simpa using h.symm)
    simp [setL]
  | v :: vs, D, [], h => by simp at h
  | v :: vs, D, r :: R, h => by
    have e : (X ++ (D ++ r :: R) ++ Y).set (X.length + D.length) v = X ++ ((D ++ [v]) ++ R) ++ Y := by
      rw [List.append_assoc, List.set_append_right _ _ (by omega), show X.length + D.length - X.length = D.length by omega]
      simp [List.set_append_right]
    have ih := setL_mid X Y vs (D ++ [v]) R (by simpa using h)
    simp only [setL, e]
    have hd : (D ++ [v]).length = D.length + 1 := by simp
    rw [hd] at ih
    rw [ih]
    simp
theorem Mem.setAllPt {g b : Nat} {t : TypeId} : ∀ (vs : List Value) (j : Nat) (xs : List Value) (w : World), Mem w0 F w (.pt g xs t :: L) → Mem w0 F (setAll g b j vs w) (.pt g (setL b j vs xs) t :: L)
  | [], _, _, _, h => h
  | v :: vs, j, xs, w, h => Mem.setAllPt vs (j + 1) _ _ (Mem.set_at (j := b + j) (v := v) [] h)
/-- an element is written whole -/
theorem Mem.listPut {g k : Nat} {x x' : α} (hcs : ∀ a, (cs a).length = size) (h : Mem w0 F w (listA e size cs (some ⟨g, 0, none⟩) c l :: L)) (hk : l[k]? = some x) {vs : List Value} (hv : vs = cs x') :
    Mem w0 F (setAll g (k * size) 0 vs w) (listA e size cs (some ⟨g, 0, none⟩) c (l.set k x') :: L) := by
  subst hv
  obtain ⟨tail, ht, h1, h2, hM⟩ := Mem.listOpen h
  have hlt := (List.getElem?_eq_some_iff.1 hk).1
  have hx := (List.getElem?_eq_some_iff.1 hk).2
  have hl : l = l.take k ++ x :: l.drop (k + 1) := by
    rw [← hx, List.getElem_cons_drop, List.take_append_drop]
  have hset : l.set k x' = l.take k ++ x' :: l.drop (k + 1) := by
    rw [List.set_eq_take_append_cons_drop, if_pos hlt]
  have hXl : ((l.take k).flatMap cs).length = k * size := by rw [flatMap_len hcs, List.length_take, Nat.min_eq_left (by omega)]
  have hM2 := Mem.setAllPt (b := k * size) (cs x') 0 _ _ hM
  have hfin : setL (k * size) 0 (cs x') (l.flatMap cs ++ tail) = (l.set k x').flatMap cs ++ tail := by
    have := setL_mid ((l.take k).flatMap cs) ((l.drop (k + 1)).flatMap cs ++ tail) (cs x') [] (cs x) (by rw [hcs, hcs])
    rw [hXl] at this
    rw [hset]
    rw (occs := .pos [1]) [hl]
    simpa [List.flatMap_append, List.flatMap_cons, List.append_assoc] using this
  rw [hfin] at hM2
  exact Mem.listShut hcs hM2 (by simpa using ht) (by simpa using h1) h2
end
end Go.Tk
