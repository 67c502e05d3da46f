/- GENERAL WORDS, over any program: a loop over a map that a call holds: the entries come in any order, each once ('iterA'). -/
import Derived.Test.YtojpcfjlenjfbaaMem
import Derived.Maps.RangeWalk
set_option linter.unusedVariables false
set_option linter.unusedSimpArgs false
set_option linter.unusedSectionVars false
namespace Go.Tk
open Go.RowKit Go.MapKept
open Go.ChangeMaps (setBlock)

theorem map_eraseIdx' {α β : Type} (f : α → β) : ∀ (l : List α) (i : Nat), (l.eraseIdx i).map f = (l.map f).eraseIdx i
  | [], _ => by simp
  | a :: l, 0 => by simp
  | a :: l, i + 1 => by simp [map_eraseIdx' f l i]
theorem filter_born : ∀ (l : List MapEntry) (i : Nat) (e : MapEntry), (l.map (·.born)).Nodup → l[i]? = some e → l.filter (fun x => decide (x.born ≠ e.born)) = l.eraseIdx i
  | [], _, _, _, h => by simp at h
  | a :: l, 0, e, hn, h => by
    simp only [List.getElem?_cons_zero, Option.some.injEq] at h
    subst h
    simp only [List.map_cons, List.nodup_cons] at hn
    rw [List.filter_cons_of_neg (by simp), List.eraseIdx_cons_zero, List.filter_eq_self]
    intro x hx
    simp only [decide_eq_true_eq]
    exact fun e => hn.1 (e ▸ List.mem_map_of_mem hx)
  | a :: l, i + 1, e, hn, h => by
    simp only [List.getElem?_cons_succ] at h
    simp only [List.map_cons, List.nodup_cons] at hn
    have hm : e ∈ l := List.mem_of_getElem? h
    rw [List.filter_cons_of_pos (by simp only [decide_eq_true_eq]; exact fun e' => hn.1 (e' ▸ List.mem_map_of_mem hm)), filter_born l i e hn.2 h]
    rfl
section
variable {P : Program} {kt : TypeId} {K V : Type} [DecidableEq K]
/-- block r goes through the map in block mb, that holds m: 'left' is still to come, 'cur' came last -/
def iterA (κ : KeyTy P kt K) (vv : V → Value) (mb : Nat) (m : List (K × V)) (r : Nat) (left : List (K × V)) (cur : Option (K × V)) : Asn :=
  .mk [mb, r] (fun w => ∃ es clock since seen, w.heap[mb]? = some (.map es clock) ∧ es.toList.map (fun e => (e.key, e.val)) = m.map (fun p => (κ.kv p.1, vv p.2)) ∧ (∀ p ∈ m, κ.ok p.1) ∧ (keysOf m).Nodup ∧ Stamped es clock ∧
      w.heap[r]? = some (.mapIter (some mb) since seen clock) ∧ (∀ x ∈ es.toList, x.born < since) ∧ since ≤ clock ∧
      (leftOf es seen).toList.map (fun e => (e.key, e.val)) = left.map (fun p => (κ.kv p.1, vv p.2)) ∧
      (∀ p, cur = some p → ∃ (e : MapEntry) (s0 : Array Nat), e ∈ es.toList ∧ seen = s0.push e.born ∧ e.key = κ.kv p.1 ∧ e.val = vv p.2))
    (fun w w' h ⟨es, clock, since, seen, h1, h2, h3, h4, h5, h6, h7⟩ => ⟨es, clock, since, seen, (h mb (by simp)).trans h1, h2, h3, h4, h5, (h r (by simp)).trans h6, h7⟩)
variable {κ : KeyTy P kt K} {vv : V → Value} {w0 w w' : World} {F : List Nat} {L : List Asn} {mb r : Nat} {m left : List (K × V)} {cur : Option (K × V)}
theorem foot_iterA : (iterA κ vv mb m r left cur).foot = [mb, r] := rfl
theorem factsP_iterA : factsP w (iterA κ vv mb m r left cur :: L) = factsP w L := rfl
theorem ptb_iterA : ptb (iterA κ vv mb m r left cur :: L) = ptb L := rfl
variable {ops : Array Oper} {rest : List Oper} {o : Oper} {a : Act} {Q : Exit → Act → World → Prop}
/-- 'range m': the map is the first part -/
theorem wpList_range_mem (h : Mem w0 F w (mapA κ vv mb m :: L)) (hg : o.guard = none) (mo : Operand) (t : TypeId) (hop : o.op = Op.range t mo) {e : TypeId} (ht : P.underlying t = some (.map kt e)) (hm : a.eval mo = .map (some mb))
    (hK : ∀ r w', Mem w0 F w' (iterA κ vv mb m r m none :: L) → wpList P ops Q rest (a.put o.dst (.pointer (some ⟨r, 0, none⟩))) w') : wpList P ops Q (o :: rest) a w := by
  obtain ⟨es, clock, h1, h2, h3, h4, h5⟩ := h.map (List.mem_cons_self ..)
  have hM : Mem w0 F (w.alloc (.mapIter (some mb) clock #[] clock)) (iterA κ vv mb m w.heap.size m none :: L) := by
    have h' := h.alloc_ (.mapIter (some mb) clock #[] clock)
    have hmb := lt_of_heap h1
    have hnd := h.nodup
    simp only [foots_cons, foot_mapA, List.cons_append, List.nil_append, List.nodup_cons] at hnd
    refine ⟨h'.fr, ?_, ?_, ?_, ?_⟩
    · intro A hA
      rcases List.mem_cons.1 hA with rfl | hA
      · refine ⟨es, clock, clock, #[], (Below.heap_alloc w _ mb hmb).trans h1, h2, h3, h4, h5, heap_alloc_new w _, h5.1, Nat.le_refl _, ?_, by simp⟩
        have : leftOf es #[] = es := by unfold leftOf; simp
        rw [this, h2]
      · exact h'.hold A (List.mem_cons_of_mem _ hA)
    · intro b hb
      simp only [foots_cons, foot_iterA, List.cons_append, List.nil_append, List.mem_cons] at hb
      simp only [World.size_alloc]
      rcases hb with rfl | rfl | hb
      · omega
      · omega
      · have := h.lt b (by simp [hb]); omega
    · intro b hb
      simp only [foots_cons, foot_iterA, List.cons_append, List.nil_append, List.mem_cons] at hb
      rcases hb with rfl | rfl | hb
      · exact h.mine b (by simp [foot_mapA])
      · exact .inr h.fr.size
      · exact h.mine b (by simp [hb])
    · simp only [foots_cons, foot_iterA, List.cons_append, List.nil_append, List.nodup_cons, List.mem_cons, not_or]
      refine ⟨⟨by omega, hnd.1⟩, fun hb => ?_, hnd.2⟩
      have := h.lt _ (List.mem_append.2 (.inr hb) : w.heap.size ∈ foots (mapA κ vv mb m :: L))
      omega
  refine wpList_plain hg fun K' hK' => ?_
  have hrun : (Instr.range t (.map (some mb))).run P w = .ok (.pointer (some ⟨w.heap.size, 0, none⟩)) (w.alloc (.mapIter (some mb) clock #[] clock)) := by
    simp only [Instr.range, Sem.run_bind, run_underlying ht, Result.andThen_ok, Go.MapKept.run_getObj_map h1, newObj]
    rfl
  unfold Oper.wp execOp
  simp only [hop, hm, Sem.run_bind, Sem.run_pure, hrun, Result.andThen_ok]
  exact hK' _ _ (hK _ _ hM)
/-- 'next': the pass is the first part -/
theorem wpList_next_mem (h : Mem w0 F w (iterA κ vv mb m r left cur :: L)) (hg : o.guard = none) (it : Operand) (hop : o.op = Op.next it false) (hi : a.eval it = .pointer (some ⟨r, 0, none⟩))
    (h0 : left = [] → wpList P ops Q rest (a.put o.dst (.tuple #[.bool false])) w)
    (h1 : ∀ i k v w', left[i]? = some (k, v) → Mem w0 F w' (iterA κ vv mb m r (left.eraseIdx i) (some (k, v)) :: L) → wpList P ops Q rest (a.put o.dst (.tuple #[.bool true, κ.kv k, vv v])) w') : wpList P ops Q (o :: rest) a w := by
  obtain ⟨es, clock, since, seen, e1, e2, e3, e4, e5, e6, e7, e8, e9, e10⟩ := h.hold _ (List.mem_cons_self ..)
  refine wpList_plain hg fun K' hK' => ?_
  unfold Oper.wp execOp
  simp only [hop, hi]
  rcases run_next_at (P := P) w o.type r mb since clock seen es clock e6 e1 e7 e8 with ⟨hz, hrun⟩ | ⟨e, he, w1, hw1, hrun⟩
  · simp only [Sem.run_bind, Sem.run_pure, hrun, Result.andThen_ok]
    refine hK' _ _ (h0 ?_)
    have : (leftOf es seen).toList = [] := by simpa using hz
    rw [this] at e9
    cases left with
    | nil => rfl
    | cons p l => simp at e9
  · simp only [Sem.run_bind, Sem.run_pure, hrun, Result.andThen_ok]
    obtain ⟨i, hi', rfl⟩ := List.getElem_of_mem he
    have hil : i < left.length := by
      have := congrArg List.length e9
      simp only [List.length_map] at this
      omega
    have hpt := congrArg (fun l => l[i]?) e9
    simp only [List.getElem?_map, List.getElem?_eq_getElem hi', List.getElem?_eq_getElem hil, Option.map_some, Option.some.injEq, Prod.mk.injEq] at hpt
    rw [hpt.1, hpt.2]
    refine hK' _ _ (h1 i _ _ _ (List.getElem?_eq_getElem hil) ?_)
    have hsub : ∀ e ∈ (leftOf es seen).toList, e ∈ es.toList := by
      intro e he
      unfold leftOf at he
      simp only [Array.toList_filter, List.mem_filter] at he
      exact he.1
    have hin : (leftOf es seen).toList[i] ∈ es.toList := hsub _ (List.getElem_mem hi')
    have hnd := h.nodup
    simp only [foots_cons, foot_iterA, List.cons_append, List.nil_append, List.nodup_cons, List.mem_cons, not_or] at hnd
    have hw1h : w1.heap = w.heap := by rcases hw1 with rfl | rfl <;> rfl
    have hne : mb ≠ r := hnd.1.1
    have hr1 : r < w.heap.size := lt_of_heap e6
    refine Mem.write (w' := setBlock w1 r (.mapIter (some mb) since (seen.push (leftOf es seen).toList[i].born) clock)) h ?_ ?_ ?_ rfl
    · have hx : w1.os = w.os ∧ w1.tape = w.tape ∧ w1.output = w.output := by rcases hw1 with rfl | rfl <;> exact ⟨rfl, rfl, rfl⟩
      refine ⟨hx.1, hx.2.1, hx.2.2, by simp [setBlock, hw1h], fun k hk hn => ?_⟩
      simp only [foot_iterA, List.mem_cons, List.not_mem_nil, or_false, not_or] at hn
      simp only [setBlock, hw1h, Array.getElem?_setIfInBounds]
      rw [if_neg (fun e => hn.2 e.symm)]
    · simp [setBlock, hw1h]
    · refine ⟨es, clock, since, seen.push (leftOf es seen).toList[i].born, ?_, e2, e3, e4, e5, ?_, e7, e8, ?_, ?_⟩
      · simp only [setBlock, hw1h, Array.getElem?_setIfInBounds]
        rw [if_neg (fun e => hne e.symm)]
        exact e1
      · simp only [setBlock, hw1h, Array.getElem?_setIfInBounds, hr1, if_true]
      · have hf : (leftOf es (seen.push (leftOf es seen).toList[i].born)).toList = ((leftOf es seen).toList).eraseIdx i := by
          have hnb : ((leftOf es seen).toList.map (·.born)).Nodup := by
            unfold leftOf
            rw [Array.toList_filter]
            exact e5.2.1.sublist ((List.filter_sublist).map _)
          rw [← filter_born _ i _ hnb (List.getElem?_eq_getElem hi')]
          generalize (leftOf es seen).toList[i].born = b0
          unfold leftOf
          rw [Array.toList_filter, Array.toList_filter, List.filter_filter]
          apply List.filter_congr
          intro x _
          simp only [Array.contains_push, ne_eq, decide_not, Bool.not_or]
          by_cases hx : x.born = b0
          · simp [hx]
          · simp [hx, beq_eq_false_iff_ne.2 hx]
        rw [hf, map_eraseIdx', e9, map_eraseIdx']
      · intro p hp
        simp only [Option.some.injEq] at hp
        subst hp
        exact ⟨_, seen, hin, rfl, hpt.1, hpt.2⟩
/-- the round's key and value -/
theorem wpList_entry_mem {k : K} {v : V} (h : Mem w0 F w (iterA κ vv mb m r left (some (k, v)) :: L)) (hg : o.guard = none) (it : Operand) (hop : o.op = Op.entry it) (hi : a.eval it = .pointer (some ⟨r, 0, none⟩))
    (hK : wpList P ops Q rest (a.put o.dst (.tuple #[κ.kv k, vv v])) w) : wpList P ops Q (o :: rest) a w := by
  obtain ⟨es, clock, since, seen, e1, e2, e3, e4, e5, e6, e7, e8, e9, e10⟩ := h.hold _ (List.mem_cons_self ..)
  obtain ⟨e, s0, he, rfl, hk, hv⟩ := e10 _ rfl
  refine wpList_plain hg fun K' hK' => ?_
  unfold Oper.wp execOp
  simp only [hop, hi, Sem.run_bind, Sem.run_pure, run_entry_at w r mb since s0 es clock e e6 e1 he e5.2.1, Result.andThen_ok, hk, hv]
  exact hK' _ _ hK
/-- the pass is over: the map is what it was -/
theorem Mem.rangeEnd (h : Mem w0 F w (iterA κ vv mb m r left cur :: L)) : Mem w0 F w (mapA κ vv mb m :: L) := by
  obtain ⟨es, clock, since, seen, e1, e2, e3, e4, e5, _⟩ := h.hold _ (List.mem_cons_self ..)
  have hlt := h.lt
  have hmi := h.mine
  have hnd := h.nodup
  simp only [foots_cons, foot_iterA, List.cons_append, List.nil_append, List.nodup_cons, List.mem_cons, not_or] at hlt hmi hnd
  refine ⟨h.fr, ?_, fun b hb => ?_, fun b hb => ?_, ?_⟩
  · intro A hA
    rcases List.mem_cons.1 hA with rfl | hA
    · exact ⟨es, clock, e1, e2, e3, e4, e5⟩
    · exact h.hold A (List.mem_cons_of_mem _ hA)
  · simp only [foots_cons, foot_mapA, List.cons_append, List.nil_append, List.mem_cons] at hb
    exact hlt b (by rcases hb with hb | hb <;> simp [hb])
  · simp only [foots_cons, foot_mapA, List.cons_append, List.nil_append, List.mem_cons] at hb
    exact hmi b (by rcases hb with hb | hb <;> simp [hb])
  · simp only [foots_cons, foot_mapA, List.cons_append, List.nil_append, List.nodup_cons]
    exact ⟨hnd.1.2, hnd.2.2⟩
/-- how many entries are still to come: for a loop's measure -/
def iterLeft (r : Nat) (w : World) : Nat :=
  match w.heap[r]? with
  | some (.mapIter (some mb) _ seen _) => (match w.heap[mb]? with | some (.map es _) => (leftOf es seen).size | _ => 0)
  | _ => 0
theorem iterLeft_of (h : (iterA κ vv mb m r left cur).holds w) : iterLeft r w = left.length := by
  obtain ⟨es, clock, since, seen, e1, e2, e3, e4, e5, e6, e7, e8, e9, e10⟩ := h
  have := congrArg List.length e9
  simp only [List.length_map, Array.length_toList] at this
  simp only [iterLeft, e6, e1]
  exact this
/-- how many of what is left are so: one is taken -/
theorem count_erase {α : Type} (p : α → Bool) : ∀ (l : List α) (i : Nat) (x : α), l[i]? = some x → (l.filter p).length = ((l.eraseIdx i).filter p).length + (if p x then 1 else 0)
  | [], _, _, h => by simp at h
  | a :: l, 0, x, h => by
    simp only [List.getElem?_cons_zero, Option.some.injEq] at h
    subst h
    simp only [List.eraseIdx_cons_zero, List.filter_cons]
    split <;> simp
  | a :: l, i + 1, x, h => by
    simp only [List.getElem?_cons_succ] at h
    simp only [List.eraseIdx_cons_succ, List.filter_cons]
    have := count_erase p l i x h
    split
    · simp only [List.length_cons]; omega
    · omega
end
end Go.Tk
