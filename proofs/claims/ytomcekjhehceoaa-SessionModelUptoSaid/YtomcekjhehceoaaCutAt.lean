/- GENERAL WORDS, over any program: an append in place to a part of a list that lies whole in memory (slices.Delete; a list whose head was cut off), what is behind a list is cleared. -/
import Derived.Test.YtomcekjhehceoaaElt
import Derived.ArgAppend
import Derived.Laws.IdiomCopy
import Derived.Lib.SliceRun
set_option linter.unusedVariables false
set_option linter.unusedSimpArgs false
namespace Go.Tk
open Go.RowKit
section
variable {α : Type} {P : Program} {st e : TypeId} {size : Nat} {cs : α → List Value} {z : α} {w0 w w' : World} {F : List Nat} {L : List Asn} {g c : Nat} {l : List α}
def setC : Nat → List Value → List Value → List Value
  | _, [], xs => xs
  | j, v :: vs, xs => setC (j + 1) vs (xs.set j v)
theorem Mem.setCellsPt {t : TypeId} : ∀ (vs : List Value) (j : Nat) (xs : List Value) (w : World), Mem w0 F w (.pt g xs t :: L) → Mem w0 F (w.setCells g j vs) (.pt g (setC j vs xs) t :: L)
  | [], _, _, _, h => h
  | v :: vs, j, xs, w, h => Mem.setCellsPt vs (j + 1) _ _ (Mem.set_at (j := j) (v := v) [] h)
theorem setC_mid (Y : List Value) : ∀ (vs X R : List Value), vs.length = R.length → setC X.length vs (X ++ R ++ Y) = X ++ vs ++ Y
  | [], X, R, h => by
    obtain rfl : R = [] := List.eq_nil_of_length_eq_zero (by simpa using h.symm)
    simp [setC]
  | v :: vs, X, [], h => by simp at h
  | v :: vs, X, r :: R, h => by
    have e1 : (X ++ (r :: R) ++ Y).set X.length v = (X ++ [v]) ++ R ++ Y := by
      rw [List.append_assoc, List.set_append_right _ _ (Nat.le_refl _), Nat.sub_self]
      simp
    have ih := setC_mid Y vs (X ++ [v]) R (by simpa using h)
    have hd : (X ++ [v]).length = X.length + 1 := by simp
    rw [hd] at ih
    simp only [setC, e1, ih]
    simp
/-- cells of a list are written: k elements stay, the written ones follow -/
theorem Mem.listWrite (hcs : ∀ a, (cs a).length = size) (h : Mem w0 F w (listA e size cs (some ⟨g, 0, none⟩) c l :: L)) {k : Nat} (hk : k ≤ l.length) (new : List α) (hroom : k + new.length ≤ c) :
    Mem w0 F (w.setCells g (k * size) (new.flatMap cs)) (listA e size cs (some ⟨g, 0, none⟩) c (l.take k ++ new) :: L) := by
  obtain ⟨tail, ht, h1, h2, hM⟩ := Mem.listOpen h
  have hX : (l.take k).flatMap cs = (l.flatMap cs ++ tail).take (k * size) := by
    rw [flatMap_take hcs, List.take_append_of_le_length]
    rw [flatMap_len hcs]
    exact Nat.mul_le_mul_right _ hk
  have hall : (l.flatMap cs ++ tail).length = c * size := by rw [List.length_append, flatMap_len hcs]; omega
  have hXl : ((l.take k).flatMap cs).length = k * size := by rw [flatMap_len hcs, List.length_take, Nat.min_eq_left hk]
  have hks : (k + new.length) * size ≤ c * size := Nat.mul_le_mul_right _ hroom
  rw [Nat.add_mul] at hks
  have hsplit : l.flatMap cs ++ tail = (l.take k).flatMap cs ++ ((l.flatMap cs ++ tail).drop (k * size)).take (new.length * size) ++ ((l.flatMap cs ++ tail).drop (k * size)).drop (new.length * size) := by
    rw [List.append_assoc, List.take_append_drop, hX, List.take_append_drop]
  have hM2 := Mem.setCellsPt (new.flatMap cs) (k * size) _ _ hM
  rw [hsplit, ← hXl, setC_mid _ (new.flatMap cs) ((l.take k).flatMap cs) _ (by rw [flatMap_len hcs, List.length_take, List.length_drop, hall, Nat.min_eq_left (by rw [hXl]; omega)])] at hM2
  rw [hXl] at hM2
  have hM3 := Mem.listShut (l := l.take k ++ new) (c := c) hcs (by rw [List.flatMap_append]; exact hM2) (by rw [List.length_drop, List.length_drop, hall, List.length_append, List.length_take, Nat.min_eq_left hk, Nat.add_mul]; omega) (by rw [List.length_append, List.length_take, Nat.min_eq_left hk]; exact hroom) h2
  exact hM3
/-- fewer elements -/
theorem Mem.listTake (hcs : ∀ a, (cs a).length = size) (h : Mem w0 F w (listA e size cs (some ⟨g, 0, none⟩) c l :: L)) (k : Nat) : Mem w0 F w (listA e size cs (some ⟨g, 0, none⟩) c (l.take k) :: L) := by
  obtain ⟨tail, ht, h1, h2, hM⟩ := Mem.listOpen h
  have e1 : l.flatMap cs = (l.take k).flatMap cs ++ (l.drop k).flatMap cs := by rw [← List.flatMap_append, List.take_append_drop]
  rw [e1, List.append_assoc] at hM
  refine Mem.listShut hcs hM ?_ (by rw [List.length_take]; omega) h2
  have e2 := congrArg List.length e1
  rw [List.length_append, flatMap_len hcs, flatMap_len hcs, flatMap_len hcs] at e2
  rw [List.length_append, flatMap_len hcs]
  omega
theorem ElTy.app_at (T : ElTy P st e size cs z) (h : Mem w0 F w (listA e size cs (some ⟨g, 0, none⟩) c l :: L)) {o n cap k : Nat} (hk : o + n = k) (hkl : k ≤ l.length) (hcap : o + cap = c) (new : List α) (hroom : n + new.length ≤ cap) {ab : Addr} {c2 m : Nat} (hm : new.length = m)
    (hsrc : Src w (some ab) size m (new.flatMap cs)) (ty : TypeId) :
    ∃ w', (Builtin.append_ #[st, st] ty #[.slice (some ⟨g, o * size, none⟩) n cap, .slice (some ab) m c2]).run P w = .ok (.slice (some ⟨g, o * size, none⟩) (n + m) cap) w' ∧ Mem w0 F w' (listA e size cs (some ⟨g, 0, none⟩) c (l.take k ++ new) :: L) := by
  obtain ⟨i, v, hi, hz, hsz, hby, hvs, _⟩ := T.info
  subst hm
  obtain ⟨tail, ht, h1, h2, hM⟩ := Mem.listOpen h
  have hheap := hM.hold _ (List.mem_cons_self ..)
  have hlen : (new.flatMap cs).length = new.length * size := flatMap_len T.len new
  have hks : (k + new.length) * size ≤ c * size := Nat.mul_le_mul_right _ (by omega)
  rw [Nat.add_mul] at hks
  have hall : (l.flatMap cs ++ tail).length = c * size := by rw [List.length_append, flatMap_len T.len]; omega
  have eo : o * size + n * size = k * size := by rw [← Nat.add_mul, hk]
  have hr := run_append_room_cells (P := P) (w := w) st ty e i T.sl hi g (o * size) n cap ab new.length c2 (new.flatMap cs) (by rw [hlen, hsz])
    (fun j u hu => by
      have hpos : 0 < new.length := by
        rcases Nat.eq_zero_or_pos new.length with h0 | h0
        · rw [List.eq_nil_of_length_eq_zero h0] at hu; simp at hu
        · exact h0
      obtain ⟨b, off, hb, hc⟩ := hsrc.2 hpos
      injection hb with hb
      subst hb
      rw [add_none']
      exact hc j u hu)
    (fun u hu => by
      obtain ⟨b, hb, hub⟩ := List.mem_flatMap.1 hu
      exact T.one b u hub) hroom
    (fun j hj => by
      rw [hsz, eo, cell_of_heap hheap, List.getElem?_toArray, List.getElem?_eq_getElem (by rw [hall]; omega)]
      rfl)
    (fun j hj => frozen_of_heap hheap)
  rw [hsz, eo] at hr
  exact ⟨_, hr, Mem.listWrite T.len h hkl new (by omega)⟩
theorem zeroCells_one (zc : Array Value) : (Builtin.zeroCells zc 1) = zc := by
  unfold Builtin.zeroCells
  rw [Nat.one_mul]
  refine Array.ext (by simp) (fun i h1 h2 => ?_)
  simp only [Array.getElem_map, Array.getElem_range]
  rw [Nat.mod_eq_of_lt h2]
  exact getElem!_pos zc i h2
theorem ElTy.clear_one (T : ElTy P st e size cs z) {zv : Value} (hv : ∀ w, (zeroValue e).run P w = .ok zv w) (hz : zv.cells.toList = cs z) (h : Mem w0 F w (listA e size cs (some ⟨g, 0, none⟩) c l :: L)) (hc : l.length < c) (c2 : Nat) (ty : TypeId) :
    ∃ w', (Builtin.clear_ #[st] ty #[.slice (some ⟨g, l.length * size, none⟩) 1 c2]).run P w = .ok (.tuple #[]) w' ∧ Mem w0 F w' (listA e size cs (some ⟨g, 0, none⟩) c l :: L) := by
  obtain ⟨tail, ht, h1, h2, hM⟩ := Mem.listOpen h
  have hheap := hM.hold _ (List.mem_cons_self ..)
  have hks : (l.length + 1) * size ≤ c * size := Nat.mul_le_mul_right _ hc
  rw [Nat.add_mul, Nat.one_mul] at hks
  have hall : (l.flatMap cs ++ tail).length = c * size := by rw [List.length_append, flatMap_len T.len]; omega
  have hst := run_storeCells_cells (P := P) g (l.length * size) (cs z) 0 w
    (fun j hj => by
      rw [T.len] at hj
      rw [Nat.add_zero, cell_of_heap hheap, List.getElem?_toArray, List.getElem?_eq_getElem (by rw [hall]; omega)]
      rfl)
    (fun j hj => frozen_of_heap hheap) (T.one z)
  rw [Nat.add_zero] at hst
  have hW := Mem.listWrite T.len h (Nat.le_refl l.length) [z] (by simp; omega)
  rw [List.take_length] at hW
  have e1 : [z].flatMap cs = cs z := by simp
  rw [e1] at hW
  have hT := Mem.listTake T.len hW l.length
  rw [List.take_left] at hT
  refine ⟨_, ?_, hT⟩
  simp [Builtin.clear_, run_underlying T.sl, hv, zeroCells_one, hz, hst]
section
variable {ops : Array Oper} {rest : List Oper} {o : Oper} {a : Act} {Q : Exit → Act → World → Prop}
theorem ElTy.if_cut (T : ElTy P st e size cs z) {K : Act → World → Prop} (h : Mem w0 F w (listA e size cs (some ⟨g, 0, none⟩) c l :: L)) (hgd : o.guard = none) {s x : Operand} (ho : o.op = .call { callee := .builtin .append, args := #[s, x], argTypes := #[st, st] })
    {q n cap k : Nat} (hk : q + n = k) (hkl : k ≤ l.length) (hcap : q + cap = c) (hs : a.eval s = .slice (some ⟨g, q * size, none⟩) n cap) (new : List α) (hroom : n + new.length ≤ cap) {ab : Addr} {c2 m : Nat} (hm : new.length = m) (hx : a.eval x = .slice (some ab) m c2)
    (hsrc : Src w (some ab) size m (new.flatMap cs)) (hK : ∀ w', Mem w0 F w' (listA e size cs (some ⟨g, 0, none⟩) c (l.take k ++ new) :: L) → K (a.put o.dst (.slice (some ⟨g, q * size, none⟩) (n + m) cap)) w') : if Region.wanted o (yielded ops a.tmps) = true then o.wp P a w K Q else K (a.put o.dst undef) w := by
  rw [if_pos (by simp [Region.wanted, hgd])]
  obtain ⟨w', hrun, hM⟩ := T.app_at h hk hkl hcap new hroom hm hsrc (c2 := c2) o.type
  unfold Oper.wp execOp
  simp only [ho, resolve, invoke, builtin, Sem.run_bind, Sem.run_pure, Result.andThen_ok, List.map_toArray, List.map_cons, List.map_nil, hs, hx, hrun]
  exact hK w' hM
theorem ElTy.wl_clear (T : ElTy P st e size cs z) {zv : Value} (hv : ∀ w, (zeroValue e).run P w = .ok zv w) (hz : zv.cells.toList = cs z) (h : Mem w0 F w (listA e size cs (some ⟨g, 0, none⟩) c l :: L)) (hc : l.length < c) (hgd : o.guard = none) {s : Operand} (ho : o.op = .call { callee := .builtin .clear, args := #[s], argTypes := #[st] })
    {q c2 : Nat} (hq : q = l.length * size) (hs : a.eval s = .slice (some ⟨g, q, none⟩) 1 c2) (hK : ∀ w', Mem w0 F w' (listA e size cs (some ⟨g, 0, none⟩) c l :: L) → wpList P ops Q rest (a.put o.dst (.tuple #[])) w') : wpList P ops Q (o :: rest) a w := by
  refine wpList_plain hgd fun K' hK' => ?_
  subst hq
  obtain ⟨w', hrun, hM⟩ := T.clear_one hv hz h hc c2 o.type
  unfold Oper.wp execOp
  simp only [ho, resolve, invoke, builtin, Sem.run_bind, Sem.run_pure, Result.andThen_ok, List.map_toArray, List.map_cons, List.map_nil, hs, hrun]
  exact hK' _ _ (hK w' hM)
end
end
end Go.Tk
