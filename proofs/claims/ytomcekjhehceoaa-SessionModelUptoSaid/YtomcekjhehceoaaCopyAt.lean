/- GENERAL WORDS, over any program: 'copy' of elements of several cells into a list that a call owns; a new list out of a list's head and zeros. -/
import Derived.Test.YtomcekjhehceoaaCutAt
import Derived.Lib.AppendZerosOnto
import Derived.Lib.AppendZeros
import Derived.Lib.Overlaps
set_option linter.unusedVariables false
set_option linter.unusedSimpArgs false
namespace Go.Tk
open Go.RowKit
theorem run_copy_sized {P : Program} (w : World) (dT sT ty elem : TypeId) (size b o dLen dCap : Nat) (a : Addr) (sLen sCap : Nat) (cs : List Value)
    (hu : P.underlying dT = some (.slice elem)) (hs : (P.info? elem).map (·.size) = some size) (hn : cs.length = Nat.min sLen dLen * size)
    (hsrc : ∀ j v, cs[j]? = some v → w.cell? (a.add j) = some v) (hc : ∀ j, j < cs.length → (w.cell? ⟨b, o + j, none⟩).isSome = true) (hf : ∀ j, j < cs.length → w.frozen? ⟨b, o + j, none⟩ = false) (h1 : ∀ v ∈ cs, v.oneCell' = true) :
    (Builtin.copy_ #[dT, sT] ty #[.slice (some ⟨b, o, none⟩) dLen dCap, .slice (some a) sLen sCap]).run P w = .ok (goInt (Nat.min sLen dLen)) (w.setCells b o cs) := by
  have hl := run_loadCells_list (P := P) w a cs hsrc
  have hst := run_storeCells_cells (P := P) b o cs 0 w (by simpa using hc) (by simpa using hf) h1
  cases hq : P.info? elem with
  | none => simp [hq] at hs
  | some i =>
    have hi : i.size = size := by simpa [hq] using hs
    simp [Builtin.copy_, run_underlying hu, Builtin.lenOf, Builtin.firstCells, sizeOf, typeInfo, hq, hi, ← hn, hl, hst]
theorem setAll_cells {g b : Nat} : ∀ (vs : List Value) (j : Nat) (w : World), setAll g b j vs w = w.setCells g (b + j) vs
  | [], _, _ => rfl
  | v :: vs, j, w => by
    simp only [setAll, World.setCells]
    rw [setAll_cells vs (j + 1)]
    rfl
section
variable {α : Type} {P : Program} {st e : TypeId} {size : Nat} {cs : α → List Value} {z : α} {w0 w w' : World} {F : List Nat} {L : List Asn} {g c : Nat} {l : List α}
theorem ElTy.sized (T : ElTy P st e size cs z) : (P.info? e).map (·.size) = some size := by
  obtain ⟨i, v, hi, _, hs, _⟩ := T.info
  rw [hi]; simp [hs]
theorem ElTy.run_copy (T : ElTy P st e size cs z) (h : Mem w0 F w (listA e size cs (some ⟨g, 0, none⟩) c l :: L)) {k dn dc m sc : Nat} (new : List α) (hroom : k + new.length ≤ c) (hmin : Nat.min m dn = new.length) {ab : Addr} (hsrc : 0 < new.length → ∀ j u, (new.flatMap cs)[j]? = some u → w.cell? (ab.add j) = some u) (sT ty : TypeId) :
    (Builtin.copy_ #[st, sT] ty #[.slice (some ⟨g, k * size, none⟩) dn dc, .slice (some ab) m sc]).run P w = .ok (goInt new.length) (w.setCells g (k * size) (new.flatMap cs)) := by
  obtain ⟨tail, ht, h1, h2, hM⟩ := Mem.listOpen h
  have hheap := hM.hold _ (List.mem_cons_self ..)
  have hks : (k + new.length) * size ≤ c * size := Nat.mul_le_mul_right _ hroom
  rw [Nat.add_mul] at hks
  have hall : (l.flatMap cs ++ tail).length = c * size := by rw [List.length_append, flatMap_len T.len]; omega
  have hln : (new.flatMap cs).length = new.length * size := flatMap_len T.len new
  rw [← hmin]
  refine run_copy_sized w st sT ty e size g (k * size) dn dc ab m sc (new.flatMap cs) T.sl T.sized (by rw [hln, hmin]) ?_ ?_ ?_ ?_
  · intro j v hv
    have : 0 < new.length := by
      rcases Nat.eq_zero_or_pos new.length with h0 | h0
      · rw [List.eq_nil_of_length_eq_zero h0] at hv; simp at hv
      · exact h0
    exact hsrc this j v hv
  · intro j hj
    rw [cell_of_heap hheap, List.getElem?_toArray, List.getElem?_eq_getElem (by rw [hall]; omega)]
    rfl
  · intro j hj
    exact frozen_of_heap hheap
  · intro u hu
    obtain ⟨b, hb, hub⟩ := List.mem_flatMap.1 hu
    exact T.one b u hub
/-- 'copy(s[k:], ..)' up to the end of what is copied: k elements stay, the copied ones follow -/
theorem ElTy.copy_tail (T : ElTy P st e size cs z) (h : Mem w0 F w (listA e size cs (some ⟨g, 0, none⟩) c l :: L)) {k dn m : Nat} (hk : k ≤ l.length) (new : List α) (hroom : k + new.length ≤ c) (hmin : Nat.min m dn = new.length) {ab : Addr} (hsrc : 0 < new.length → ∀ j u, (new.flatMap cs)[j]? = some u → w.cell? (ab.add j) = some u) :
    ∃ w', (∀ dc sc sT ty, (Builtin.copy_ #[st, sT] ty #[.slice (some ⟨g, k * size, none⟩) dn dc, .slice (some ab) m sc]).run P w = .ok (goInt new.length) w') ∧ Mem w0 F w' (listA e size cs (some ⟨g, 0, none⟩) c (l.take k ++ new) :: L) :=
  ⟨_, fun dc sc sT ty => T.run_copy h new hroom hmin hsrc sT ty, Mem.listWrite T.len h hk new hroom⟩
/-- 'copy(s[k:], ..)' of one element -/
theorem ElTy.copy_one (T : ElTy P st e size cs z) (h : Mem w0 F w (listA e size cs (some ⟨g, 0, none⟩) c l :: L)) {k dn m : Nat} (hk : k < l.length) (x : α) (hmin : Nat.min m dn = 1) {ab : Addr} (hsrc : ∀ j u, (cs x)[j]? = some u → w.cell? (ab.add j) = some u) :
    ∃ w', (∀ dc sc sT ty, (Builtin.copy_ #[st, sT] ty #[.slice (some ⟨g, k * size, none⟩) dn dc, .slice (some ab) m sc]).run P w = .ok (goInt 1) w') ∧ Mem w0 F w' (listA e size cs (some ⟨g, 0, none⟩) c (l.set k x) :: L) := by
  have hlc : l.length ≤ c := by
    obtain ⟨tail, ht, h1, h2, hM⟩ := Mem.listOpen h
    exact h1
  have hr := fun dc sc sT ty => T.run_copy h (k := k) (dn := dn) (dc := dc) (m := m) (sc := sc) (ab := ab) [x] (by simp; omega) (by simpa using hmin) (fun _ j u hu => hsrc j u (by simpa using hu)) sT ty
  have e1 : [x].flatMap cs = cs x := by simp
  rw [e1] at hr
  refine ⟨_, hr, ?_⟩
  have := Mem.listPut T.len h (List.getElem?_eq_getElem hk) (x' := x) (vs := cs x) rfl
  rw [setAll_cells] at this
  exact this
/-- 'append(s[:i], make(S, k)...)' beyond the room: a new list -/
theorem ElTy.grow_zeros (T : ElTy P st e size cs z) (h : Mem w0 F w L) {i sc k : Nat} {it : TypeId} (hit : P.underlying it = some (.int .i64)) (l : List α) (hl : l.length = i) {a : Addr} (hsrc : 0 < i → ∀ j u, (l.flatMap cs)[j]? = some u → w.cell? (a.add j) = some u) (hk : 0 < k) (hg : sc < i + k) (hb : i + k ≤ 100000000) :
    ∃ G w', (∀ ty, (Builtin.append_ #[st, it] ty #[.slice (some a) i sc, .int .i64 k]).run P w = .ok (.slice (some ⟨w.heap.size, 0, none⟩) (i + k) G) w') ∧ i + k ≤ G ∧ G ≤ maxLen ∧ Mem w0 F w' (listA e size cs (some ⟨w.heap.size, 0, none⟩) G (l ++ List.replicate k z) :: L) := by
  obtain ⟨ti, v, hi, hz, hsz, hby, hvs, hvz⟩ := T.info
  subst hl
  have hln : (l.flatMap cs).length = l.length * size := flatMap_len T.len l
  have hold : (Builtin.firstCells ti.size l.length (.slice (some a) l.length sc)).run P w.drew = .ok (l.flatMap cs).toArray w.drew := by
    refine run_firstCells_some w.drew ti.size l.length a l.length sc (l.flatMap cs) (by rw [hln, hsz]) (fun j u hu => ?_)
    have : 0 < l.length := by
      rcases Nat.eq_zero_or_pos l.length with h0 | h0
      · rw [List.eq_nil_of_length_eq_zero h0] at hu; simp at hu
      · exact h0
    exact hsrc this j u hu
  have hr := fun ty => Lib.run_append_grow_zeros w st it ty e ti v .i64 .i64 T.sl hit hi hz (some a) l.length sc (l.flatMap cs) hold k hk (by rw [hsz]; exact T.pos) hg (by omega) (Nat.le_trans (Nat.mul_le_mul (by omega : k ≤ 100000000) hby) (by omega)) (growslice_fits hg (Nat.le_trans (Nat.mul_le_mul hb hby) (by omega)))
  have hGn : l.length + k ≤ grownCap w (l.length + k) sc e := grownCap_ge w _ _ _
  have hGm : grownCap w (l.length + k) sc e ≤ maxLen := grownCap_le_maxLen w _ _ _ (by unfold maxLen; omega)
  generalize grownCap w (l.length + k) sc e = G at *
  refine ⟨G, _, hr, hGn, hGm, ?_⟩
  have hzc : ∀ n, (Builtin.zeroCells v.cells n).toList = (List.replicate n z).flatMap cs := by
    intro n
    have hlen : ((List.replicate n z).flatMap cs).length = n * size := by rw [flatMap_len T.len]; simp
    apply List.ext_getElem?
    intro j
    by_cases hj : j < n * size
    · have hjs : j / size < n := Nat.div_lt_of_lt_mul (by rw [Nat.mul_comm]; exact hj)
      have hjm : j % size < size := Nat.mod_lt _ T.pos
      have e1 := flatMap_at T.len (List.replicate n z) (j / size) z (by rw [List.getElem?_replicate, if_pos hjs]) (j % size) hjm
      rw [show j / size * size + j % size = j by rw [Nat.mul_comm]; exact Nat.div_add_mod j size] at e1
      have hsz2 : (Builtin.zeroCells v.cells n).size = n * size := by simp [Builtin.zeroCells, hvs]
      have e2 : (Builtin.zeroCells v.cells n).toList[j]? = (cs z)[j % size]? := by
        rw [Array.getElem?_toList, ← hvz, Array.getElem?_toList]
        rw [Array.getElem?_eq_getElem (by rw [hsz2]; exact hj), Array.getElem?_eq_getElem (by rw [hvs]; exact hjm)]
        simp only [Builtin.zeroCells, Array.getElem_map, Array.getElem_range, hvs]
        congr 1
        exact getElem!_pos v.cells (j % size) (by rw [hvs]; exact hjm)
      rw [e2]
      exact e1.symm
    · rw [List.getElem?_eq_none (by simp [Builtin.zeroCells, hvs]; omega), List.getElem?_eq_none (by rw [hlen]; omega)]
  have h2 := h.drew.alloc ((l ++ List.replicate k z).flatMap cs ++ (List.replicate (G - (l.length + k)) z).flatMap cs) e
  have e3 : ((l ++ List.replicate k z).flatMap cs ++ (List.replicate (G - (l.length + k)) z).flatMap cs).toArray = (l.flatMap cs).toArray ++ Builtin.zeroCells v.cells k ++ Builtin.zeroCells v.cells (G - (l.length + k)) := by
    apply Array.ext'
    simp only [Array.toList_append, hzc, List.flatMap_append]
  rw [e3] at h2
  refine Mem.listShut T.len h2 ?_ (by simpa using hGn) hGm
  rw [flatMap_len T.len, List.length_append, List.length_replicate, List.length_replicate, ← Nat.add_mul]
  congr 1
  omega
section
variable {ops : Array Oper} {rest : List Oper} {o : Oper} {a : Act} {Q : Exit → Act → World → Prop}
theorem wl_copy (hgd : o.guard = none) {d s : Operand} {t t' : TypeId} (ho : o.op = .call { callee := .builtin .copy, args := #[d, s], argTypes := #[t, t'] }) {v u : Value} (hd : a.eval d = v) (hs : a.eval s = u) {v' : Value} {w' : World}
    (hr : (Builtin.copy_ #[t, t'] o.type #[v, u]).run P w = .ok v' w') (h : wpList P ops Q rest (a.put o.dst v') w') : wpList P ops Q (o :: rest) a w :=
  wpList_plain hgd fun K hK => by
    unfold Oper.wp execOp
    simp only [ho, resolve, invoke, builtin, Sem.run_bind, Sem.run_pure, Result.andThen_ok, List.map_toArray, List.map_cons, List.map_nil, hd, hs, hr]
    exact hK _ _ h
theorem wl_appz (hgd : o.guard = none) {d s : Operand} {t t' : TypeId} (ho : o.op = .call { callee := .builtin .append, args := #[d, s], argTypes := #[t, t'] }) {v u : Value} (hd : a.eval d = v) (hs : a.eval s = u) {v' : Value} {w' : World}
    (hr : (Builtin.append_ #[t, t'] o.type #[v, u]).run P w = .ok v' w') (h : wpList P ops Q rest (a.put o.dst v') w') : wpList P ops Q (o :: rest) a w :=
  wpList_plain hgd fun K hK => by
    unfold Oper.wp execOp
    simp only [ho, resolve, invoke, builtin, Sem.run_bind, Sem.run_pure, Result.andThen_ok, List.map_toArray, List.map_cons, List.map_nil, hd, hs, hr]
    exact hK _ _ h
theorem ElTy.if_copy_tail (T : ElTy P st e size cs z) {K : Act → World → Prop} (h : Mem w0 F w (listA e size cs (some ⟨g, 0, none⟩) c l :: L)) (hgd : o.guard = none) {s x : Operand} {sT : TypeId} (ho : o.op = .call { callee := .builtin .copy, args := #[s, x], argTypes := #[st, sT] })
    {k q dn dc m sc : Nat} (hq : q = k * size) {ab : Addr} (hd : a.eval s = .slice (some ⟨g, q, none⟩) dn dc) (hs : a.eval x = .slice (some ab) m sc) (hk : k ≤ l.length) (new : List α) (hroom : k + new.length ≤ c) (hmin : Nat.min m dn = new.length) (hsrc : 0 < new.length → ∀ j u, (new.flatMap cs)[j]? = some u → w.cell? (ab.add j) = some u)
    (hK : ∀ w', Mem w0 F w' (listA e size cs (some ⟨g, 0, none⟩) c (l.take k ++ new) :: L) → K (a.put o.dst (goInt new.length)) w') : if Region.wanted o (yielded ops a.tmps) = true then o.wp P a w K Q else K (a.put o.dst undef) w := by
  rw [if_pos (by simp [Region.wanted, hgd])]
  subst hq
  obtain ⟨w', hrun, hM⟩ := T.copy_tail h hk new hroom hmin hsrc
  unfold Oper.wp execOp
  simp only [ho, resolve, invoke, builtin, Sem.run_bind, Sem.run_pure, Result.andThen_ok, List.map_toArray, List.map_cons, List.map_nil, hd, hs, hrun]
  exact hK w' hM
end
theorem Src.cells {w : World} {ab : Addr} {size n : Nat} {vs : List Value} (h : Src w (some ab) size n vs) (hn : 0 < n) : ∀ j u, vs[j]? = some u → w.cell? (ab.add j) = some u := by
  obtain ⟨b, off, he, hc⟩ := h.2 hn
  injection he with he
  subst he
  intro j u hu
  rw [add_none']
  exact hc j u hu
end
end Go.Tk
