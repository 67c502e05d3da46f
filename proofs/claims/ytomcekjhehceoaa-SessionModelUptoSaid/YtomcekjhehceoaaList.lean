/- GENERAL WORDS, over any program: a slice that a call owns, as a list of things ('listA'): read, appended to, an element written. -/
import Derived.Test.YtomcekjhehceoaaMem
import Derived.Test.YtomcekjhehceoaaAppend
set_option linter.unusedVariables false
set_option linter.unusedSimpArgs false
namespace Go.Tk
open Go.RowKit

section
variable {α : Type} {e : TypeId} {size : Nat} {cs : α → List Value}
theorem flatMap_len (hcs : ∀ a, (cs a).length = size) : ∀ l : List α, (l.flatMap cs).length = l.length * size
  | [] => by simp
  | a :: l => by simp only [List.flatMap_cons, List.length_append, List.length_cons, flatMap_len hcs l, hcs, Nat.add_mul]; omega
theorem flatMap_at (hcs : ∀ a, (cs a).length = size) : ∀ (l : List α) (k : Nat) (a : α), l[k]? = some a → ∀ j, j < size → (l.flatMap cs)[k * size + j]? = (cs a)[j]?
  | [], _, _, h, _, _ => by simp at h
  | b :: l, 0, a, h, j, hj => by
    simp only [List.getElem?_cons_zero, Option.some.injEq] at h
    subst h
    simp only [List.flatMap_cons, Nat.zero_mul, Nat.zero_add]
    rw [List.getElem?_append_left (by rw [hcs]; exact hj)]
  | b :: l, k + 1, a, h, j, hj => by
    simp only [List.getElem?_cons_succ] at h
    simp only [List.flatMap_cons]
    rw [List.getElem?_append_right (by rw [hcs, Nat.add_mul]; omega)]
    rw [show (k + 1) * size + j - (cs b).length = k * size + j by rw [hcs, Nat.add_mul]; omega]
    exact flatMap_at hcs l k a h j hj
theorem flatMap_set (hcs : ∀ a, (cs a).length = size) : ∀ (l : List α) (k : Nat) (a a' : α) (j : Nat) (v : Value), l[k]? = some a → j < size → cs a' = (cs a).set j v → (l.flatMap cs).set (k * size + j) v = (l.set k a').flatMap cs
  | [], _, _, _, _, _, h, _, _ => by simp at h
  | b :: l, 0, a, a', j, v, h, hj, he => by
    simp only [List.getElem?_cons_zero, Option.some.injEq] at h
    subst h
    simp only [List.flatMap_cons, Nat.zero_mul, Nat.zero_add, List.set_cons_zero, he]
    rw [List.set_append_left _ _ (by rw [hcs]; exact hj)]
  | b :: l, k + 1, a, a', j, v, h, hj, he => by
    simp only [List.getElem?_cons_succ] at h
    simp only [List.flatMap_cons, List.set_cons_succ]
    rw [List.set_append_right _ _ (by rw [hcs, Nat.add_mul]; omega)]
    rw [show (k + 1) * size + j - (cs b).length = k * size + j by rw [hcs, Nat.add_mul]; omega]
    rw [flatMap_set hcs l k a a' j v h hj he]
theorem flatMap_take (hcs : ∀ a, (cs a).length = size) : ∀ (l : List α) (k : Nat), (l.take k).flatMap cs = (l.flatMap cs).take (k * size)
  | [], k => by simp
  | b :: l, 0 => by simp
  | b :: l, k + 1 => by
    simp only [List.take_succ_cons, List.flatMap_cons, flatMap_take hcs l k]
    rw [List.take_append, List.take_of_length_le (l := cs b) (by rw [hcs, Nat.add_mul]; omega), hcs, show (k + 1) * size - size = k * size by rw [Nat.add_mul]; omega]
theorem flatMap_drop (hcs : ∀ a, (cs a).length = size) : ∀ (l : List α) (k : Nat), (l.drop k).flatMap cs = (l.flatMap cs).drop (k * size)
  | [], k => by simp
  | b :: l, 0 => by simp
  | b :: l, k + 1 => by
    simp only [List.drop_succ_cons, List.flatMap_cons, flatMap_drop hcs l k]
    rw [List.drop_append, List.drop_eq_nil_of_le (as := cs b) (by rw [hcs, Nat.add_mul]; omega), hcs, show (k + 1) * size - size = k * size by rw [Nat.add_mul]; omega, List.nil_append]
end

theorem ownsRow_mono {w : World} {e : TypeId} {size n : Nat} {v : Value} {xs : List Value} {b b' : Nat} (h : w.ownsRow b e size v n xs) (hb : b' ≤ b) : w.ownsRow b' e size v n xs := by
  refine ⟨h.1, ?_⟩
  rcases h.2 with h2 | ⟨g, cap, cur, hv, hg, r⟩
  · exact .inl h2
  · exact .inr ⟨g, cap, cur, hv, by omega, r⟩
/-- a slice value's block -/
def afoot : Option Addr → List Nat
  | some a => [a.block]
  | none => []
/-- a slice '.slice A l.length c' that is owned: its cells are those of the list l -/
def listA {α : Type} (e : TypeId) (size : Nat) (cs : α → List Value) (A : Option Addr) (c : Nat) (l : List α) : Asn :=
  .mk (afoot A) (fun w => w.ownsRow 0 e size (.slice A l.length c) l.length (l.flatMap cs)) (fun w w' h hw => by
    refine ⟨hw.1, ?_⟩
    rcases hw.2 with h2 | ⟨g, cap, cur, hv, hg, hh, r⟩
    · exact .inl h2
    · injection hv with e1 e2 e3
      subst e1
      exact .inr ⟨g, cap, cur, by rw [e3], hg, (h g (by simp [afoot])).trans hh, r⟩)
section
variable {α : Type} {e : TypeId} {size : Nat} {cs : α → List Value} {A : Option Addr} {c : Nat} {l : List α} {w0 w w' : World} {F : List Nat} {L : List Asn}
theorem foot_listA : (listA e size cs A c l).foot = afoot A := rfl
theorem factsP_listA : factsP w (listA e size cs A c l :: L) = factsP w L := rfl
theorem ptb_listA : ptb (listA e size cs A c l :: L) = ptb L := rfl
theorem listA_holds : (listA e size cs A c l).holds w = w.ownsRow 0 e size (.slice A l.length c) l.length (l.flatMap cs) := rfl
theorem listA_none (h : (listA e size cs none c l).holds w) : l = [] ∧ c = 0 := by
  rw [listA_holds] at h
  rcases h.2 with ⟨h1, h2⟩ | ⟨g, cap, cur, hv, _⟩
  · injection h1 with e1 e2 e3
    exact ⟨List.length_eq_zero_iff.1 h2, e3⟩
  · injection hv with e1
    exact absurd e1 (by simp)
/-- what a slice's place is -/
theorem listA_some {a : Addr} (h : (listA e size cs (some a) c l).holds w) : ∃ g cur, a = ⟨g, 0, none⟩ ∧ w.heap[g]? = some (.cells cur e (0, 0)) ∧ l.length ≤ c ∧ c ≤ maxLen ∧ cur.size = c * size ∧ cur.toList.take (l.length * size) = l.flatMap cs := by
  rw [listA_holds] at h
  rcases h.2 with ⟨h1, h2⟩ | ⟨g, cap, cur, hv, hg, hh, h1, h2, h3, h4⟩
  · injection h1 with e1
    exact absurd e1 (by simp)
  · injection hv with e1 e2 e3
    injection e1 with e1
    subst e3
    exact ⟨g, cur, e1, hh, h1, h2, h3, h4⟩
theorem Mem.listNil (h : Mem w0 F w L) : Mem w0 F w (listA e size cs none 0 ([] : List α) :: L) := by
  refine ⟨h.fr, ?_, h.lt, h.mine, h.nodup⟩
  intro B hB
  rcases List.mem_cons.1 hB with rfl | hB
  · exact ⟨by simp, .inl ⟨rfl, rfl⟩⟩
  · exact h.hold B hB
/-- a part takes another's place: in its blocks, or in new ones -/
theorem Mem.replace {A A' : Asn} (h : Mem w0 F w (A :: L)) (fr : Fr A.foot w w') (hA : A'.holds w') (hf : ∀ b ∈ A'.foot, (b ∈ A.foot ∨ w.heap.size ≤ b) ∧ b < w'.heap.size) (hn : A'.foot.Nodup) : Mem w0 F w' (A' :: L) := by
  have hnd := h.nodup
  simp only [foots_cons] at hnd
  obtain ⟨n1, n2, n3⟩ := List.nodup_append.1 hnd
  refine ⟨h.fr.trans fr (fun b hb' => h.mine b (by simp [hb'])), ?_, ?_, ?_, ?_⟩
  · intro B hB
    rcases List.mem_cons.1 hB with rfl | hB
    · exact hA
    · exact Asn.loc (fun b hb' => fr.block b (h.lt b (by simp [mem_foots hB hb'])) (fun hc => n3 b hc b (mem_foots hB hb') rfl)) (h.hold B (by simp [hB]))
  · intro b hb
    rw [foots_cons] at hb
    rcases List.mem_append.1 hb with hb | hb
    · exact (hf b hb).2
    · exact Nat.lt_of_lt_of_le (h.lt b (by simp [hb])) fr.size
  · intro b hb
    rw [foots_cons] at hb
    rcases List.mem_append.1 hb with hb | hb
    · rcases (hf b hb).1 with hb | hb
      · exact h.mine b (by simp [hb])
      · exact .inr (Nat.le_trans h.fr.size hb)
    · exact h.mine b (by simp [hb])
  · rw [foots_cons, List.nodup_append]
    refine ⟨hn, n2, fun a ha b hb e => ?_⟩
    subst e
    rcases (hf a ha).1 with h1 | h1
    · exact n3 a h1 a hb rfl
    · have := h.lt a (by simp [hb]); omega
/-- facts on one element, for the walk -/
def cellsQ (w : World) (b base : Nat) : List Value → Nat → Prop
  | [], _ => True
  | v :: vs, j => w.cell? ⟨b, base + j, none⟩ = some v ∧ cellsQ w b base vs (j + 1)
theorem cellsQ_of {b base : Nat} : ∀ (vs : List Value) (i : Nat), (∀ j v, vs[j]? = some v → w.cell? ⟨b, base + (i + j), none⟩ = some v) → cellsQ w b base vs i
  | [], _, _ => trivial
  | v :: vs, i, h => ⟨by simpa using h 0 v rfl, cellsQ_of vs (i + 1) (fun j u hu => by
      have := h (j + 1) u (by simpa using hu)
      rw [show i + 1 + j = i + (j + 1) by omega]
      exact this)⟩
theorem listA_get (hcs : ∀ a, (cs a).length = size) (h : (listA e size cs A c l).holds w) {k : Nat} {a : α} (hk : l[k]? = some a) :
    ∃ g, A = some ⟨g, 0, none⟩ ∧ roomP g w.heap.size ∧ (∀ j, w.frozen? ⟨g, j, none⟩ = false) ∧ cellsQ w g (k * size) (cs a) 0 := by
  have hlt : k < l.length := (List.getElem?_eq_some_iff.1 hk).1
  cases A with
  | none => rw [(listA_none h).1] at hlt; simp at hlt
  | some ad =>
    obtain ⟨g, cur, rfl, hh, h1, h2, h3, h4⟩ := listA_some h
    refine ⟨g, rfl, roomP_of (lt_of_heap hh), fun j => frozen_of_heap hh, cellsQ_of _ _ (fun j v hv => ?_)⟩
    have hj : j < size := by have := (List.getElem?_eq_some_iff.1 hv).1; rwa [hcs] at this
    have hkj : k * size + j < l.length * size := Nat.lt_of_lt_of_le (by rw [Nat.add_mul]; omega : k * size + j < (k + 1) * size) (Nat.mul_le_mul_right _ hlt)
    rw [cell_of_heap hh]
    have := flatMap_at hcs l k a hk j hj
    rw [← h4, List.getElem?_take, if_pos hkj] at this
    simp only [Nat.zero_add]
    rw [← Array.getElem?_toList, this]
    exact hv
theorem listA_at (hcs : ∀ a, (cs a).length = size) {g : Nat} (h : (listA e size cs (some ⟨g, 0, none⟩) c l).holds w) {k : Nat} {a : α} (hk : l[k]? = some a) :
    roomP g w.heap.size ∧ (∀ j, w.frozen? ⟨g, j, none⟩ = false) ∧ cellsQ w g (k * size) (cs a) 0 := by
  obtain ⟨g', hg, h1⟩ := listA_get hcs h hk
  injection hg with hg
  injection hg with hg
  subst hg
  exact h1
/-- the cells as one row, with the spare ones behind -/
theorem Mem.listOpen {g : Nat} (h : Mem w0 F w (listA e size cs (some ⟨g, 0, none⟩) c l :: L)) : ∃ tail, tail.length + l.length * size = c * size ∧ l.length ≤ c ∧ c ≤ maxLen ∧ Mem w0 F w (.pt g (l.flatMap cs ++ tail) e :: L) := by
  obtain ⟨g', cur, hg, hh, h1, h2, h3, h4⟩ := listA_some (h.hold _ (List.mem_cons_self ..))
  injection hg with hg
  subst hg
  have hle : l.length * size ≤ c * size := Nat.mul_le_mul_right _ h1
  refine ⟨cur.toList.drop (l.length * size), by simp only [List.length_drop, Array.length_toList, h3]; omega, h1, h2, h.fr, ?_, h.lt, h.mine, h.nodup⟩
  intro B hB
  rcases List.mem_cons.1 hB with rfl | hB
  · show w.heap[g]? = _
    rw [hh, ← h4, List.take_append_drop]
  · exact h.hold B (List.mem_cons_of_mem _ hB)
theorem Mem.listShut {g : Nat} {tail : List Value} (hcs : ∀ a, (cs a).length = size) (h : Mem w0 F w (.pt g (l.flatMap cs ++ tail) e :: L)) (ht : tail.length + l.length * size = c * size) (h1 : l.length ≤ c) (h2 : c ≤ maxLen) : Mem w0 F w (listA e size cs (some ⟨g, 0, none⟩) c l :: L) := by
  have hh := h.hold _ (List.mem_cons_self ..)
  refine ⟨h.fr, ?_, h.lt, h.mine, h.nodup⟩
  intro B hB
  rcases List.mem_cons.1 hB with rfl | hB
  · refine ⟨flatMap_len hcs l, .inr ⟨g, c, _, rfl, Nat.zero_le _, hh, h1, h2, ?_, ?_⟩⟩
    · simp only [List.size_toArray, List.length_append, flatMap_len hcs]; omega
    · simp only []
      rw [List.take_append_of_le_length (by rw [flatMap_len hcs]; omega), List.take_of_length_le (by rw [flatMap_len hcs]; omega)]
  · exact h.hold B (List.mem_cons_of_mem _ hB)
theorem set_tail {xs tail : List Value} {j : Nat} {v : Value} (h : j < xs.length) : (xs ++ tail).set j v = xs.set j v ++ tail := List.set_append_left _ _ h
/-- an element is written -/
theorem Mem.listSet {g k j : Nat} {a a' : α} {v : Value} (hcs : ∀ a, (cs a).length = size) (h : Mem w0 F w (listA e size cs (some ⟨g, 0, none⟩) c l :: L)) (hk : l[k]? = some a) (hj : j < size) (he : cs a' = (cs a).set j v) :
    Mem w0 F (w.setCell ⟨g, k * size + j, none⟩ v) (listA e size cs (some ⟨g, 0, none⟩) c (l.set k a') :: L) := by
  obtain ⟨tail, h1, h2, h3, h4⟩ := h.listOpen
  have hlt : k < l.length := (List.getElem?_eq_some_iff.1 hk).1
  have hkj : k * size + j < l.length * size := Nat.lt_of_lt_of_le (by rw [Nat.add_mul]; omega : k * size + j < (k + 1) * size) (Nat.mul_le_mul_right _ hlt)
  have h5 := h4.set_at (j := k * size + j) (v := v) []
  simp only [List.nil_append] at h5
  rw [set_tail (by rw [flatMap_len hcs]; exact hkj), flatMap_set hcs l k a a' j v hk hj he] at h5
  exact h5.listShut hcs (by simpa using h1) (by simpa using h2) h3
/-- the cells of some elements, as a source of an append -/
theorem listA_src (hcs : ∀ a, (cs a).length = size) (h : (listA e size cs A c l).holds w) : Src w A size l.length (l.flatMap cs) := by
  refine ⟨flatMap_len hcs l, fun hl => ?_⟩
  cases A with
  | none => rw [(listA_none h).1] at hl; simp at hl
  | some ad =>
    obtain ⟨g, cur, rfl, hh, h1, h2, h3, h4⟩ := listA_some h
    refine ⟨g, 0, rfl, fun j u hu => ?_⟩
    rw [Nat.zero_add, cell_of_heap hh, ← Array.getElem?_toList]
    rw [← h4, List.getElem?_take] at hu
    split at hu
    · exact hu
    · simp at hu
variable {P : Program} {ops : Array Oper} {rest : List Oper} {o : Oper} {a : Act} {Q : Exit → Act → World → Prop}
/-- 's = append(s, x...)', one operation: the slice is the first part -/
theorem oper_append_mem {K : Act → World → Prop} (h : Mem w0 F w (listA e size cs A c l :: L)) (hgd : o.guard = none) (s x : Operand) (t : TypeId)
    (ho : o.op = .call { callee := .builtin .append, args := #[s, x], argTypes := #[t, t] })
    (i : TypeInfo) (z : Value) (bytes : Nat) (ht : P.underlying t = some (.slice e)) (hi : P.info? e = some i) (hz : i.zero = some z) (hsize : i.size = size) (hby : i.bytes = bytes) (hzs : z.cells.size = size) (hsz : 0 < size)
    (hs : a.eval s = .slice A l.length c) (B : Option Addr) (c2 : Nat) (new : List α) (hx : a.eval x = .slice B new.length c2) (hsrc : Src w B size new.length (new.flatMap cs)) (h1 : ∀ a, ∀ u ∈ cs a, u.oneCell' = true)
    (h63 : l.length + new.length ≤ maxLen) (hbytes : (l.length + new.length) * bytes ≤ 140737488355328)
    (hK : ∀ A' c' w', Mem w0 F w' (listA e size cs A' c' (l ++ new) :: L) → K (a.put o.dst (.slice A' (l ++ new).length c')) w') : o.wp P a w K Q := by
  have hown : w.ownsRow 0 e size (.slice A l.length c) l.length (l.flatMap cs) := h.hold _ (List.mem_cons_self ..)
  have hone : ∀ u ∈ new.flatMap cs, u.oneCell' = true := by
    intro u hu
    obtain ⟨b, hb, hub⟩ := List.mem_flatMap.1 hu
    exact h1 b u hub
  have key : ∃ v' w', (Builtin.append_ #[t, t] o.type #[.slice A l.length c, .slice B new.length c2]).run P w = .ok v' w' ∧ w'.ownsRow 0 e size v' (l.length + new.length) (l.flatMap cs ++ new.flatMap cs) ∧ w.grownBy w' (Value.slice A l.length c).ownBlock ∧ (v'.ownBlock = (Value.slice A l.length c).ownBlock ∨ v'.ownBlock = some w.heap.size) := by
    rcases Nat.eq_zero_or_pos new.length with hm | hm
    · have hn : new = [] := List.eq_nil_of_length_eq_zero hm
      subst hn
      cases B with
      | none => exact ⟨_, w, run_append_none _ t o.type i ht hi hown c2, by simpa using hown, World.grownBy.refl w _, .inl rfl⟩
      | some ad =>
        obtain ⟨v', w', hrun, h2, h3, _, h5⟩ := run_append_own_at (P := P) w 0 t o.type e i z size bytes ht hi hz hsize hby hzs hsz _ _ _ hown ad 0 c2 [] (by simp) (fun j u hu => by simp at hu) (by simp) (by simpa using h63) (by simpa using hbytes) (Nat.zero_le _)
        exact ⟨v', w', hrun, h2, h3, h5⟩
    · obtain ⟨b, off, rfl, hc⟩ := hsrc.2 hm
      obtain ⟨v', w', hrun, h2, h3, _, h5⟩ := run_append_own_at (P := P) w 0 t o.type e i z size bytes ht hi hz hsize hby hzs hsz _ _ _ hown ⟨b, off, none⟩ new.length c2 (new.flatMap cs) hsrc.1 (fun j u hu => by rw [add_none']; exact hc j u hu) hone h63 hbytes (Nat.zero_le _)
      exact ⟨v', w', hrun, h2, h3, h5⟩
  obtain ⟨v', w', hrun, h2, h3, h4⟩ := key
  have hfb : ∀ b, (Value.slice A l.length c).ownBlock = some b → b ∈ afoot A := by
    intro b hb
    cases A with
    | none => simp [Value.ownBlock] at hb
    | some a => simp [Value.ownBlock] at hb; simp [afoot, hb]
  have hfr : Fr (afoot A) w w' := ⟨h3.os, h3.tape, h3.output, h3.size, fun k hk hn => h3.block k hk (fun e => hn (hfb k e.symm))⟩
  obtain ⟨A', c', rfl⟩ : ∃ A' c', v' = .slice A' (l ++ new).length c' := by
    rw [List.length_append]
    rcases h2.2 with ⟨hv, hn⟩ | ⟨g, cap, cur, hv, _⟩
    · exact ⟨none, 0, by rw [hv, hn]⟩
    · exact ⟨_, _, hv⟩
  have hM : Mem w0 F w' (listA e size cs A' c' (l ++ new) :: L) := by
    refine h.replace hfr ?_ ?_ ?_
    · show w'.ownsRow 0 e size (.slice A' (l ++ new).length c') (l ++ new).length ((l ++ new).flatMap cs)
      rw [List.flatMap_append, List.length_append]
      rw [List.length_append] at h2
      exact h2
    · intro b hb
      have hb' : (Value.slice A' (l ++ new).length c').ownBlock = some b := by
        cases A' with
        | none => simp [foot_listA, afoot] at hb
        | some a => simp [foot_listA, afoot] at hb; simp [Value.ownBlock, hb]
      refine ⟨?_, (h2.lt b hb').2⟩
      rcases h4 with h4 | h4
      · exact .inl (hfb b (h4 ▸ hb'))
      · rw [h4] at hb'
        injection hb' with hb'
        exact .inr (by omega)
    · cases A' <;> simp [foot_listA, afoot]
  unfold Oper.wp execOp
  simp only [ho, resolve, invoke, builtin, Sem.run_bind, Sem.run_pure, Result.andThen_ok, List.map_toArray, List.map_cons, List.map_nil, hs, hx, hrun]
  exact hK A' c' w' hM
/-- the element just built, as a source -/
theorem src_one {b : Nat} {t : TypeId} {x : α} {L : List Asn} (hcs : ∀ a, (cs a).length = size) (h : Mem w0 F w L) (hm : Asn.pt b (cs x) t ∈ L) : Src w (some ⟨b, 0, none⟩) size 1 ([x].flatMap cs) := by
  refine ⟨by simp [hcs], fun _ => ⟨b, 0, rfl, fun j u hu => ?_⟩⟩
  have hh : w.heap[b]? = some (.cells (cs x).toArray t (0, 0)) := h.hold _ hm
  rw [Nat.zero_add, cell_of_heap hh]
  simpa using hu
theorem listA_src_take (hcs : ∀ a, (cs a).length = size) (h : (listA e size cs A c l).holds w) {k : Nat} (hk : k ≤ l.length) : Src w A size k ((l.take k).flatMap cs) := by
  obtain ⟨h1, h2⟩ := listA_src hcs h
  refine ⟨by rw [flatMap_len hcs, List.length_take]; congr 1; omega, fun hp => ?_⟩
  obtain ⟨b, off, rfl, hc⟩ := h2 (by omega)
  refine ⟨b, off, rfl, fun j u hu => hc j u ?_⟩
  rw [flatMap_take hcs, List.getElem?_take] at hu
  split at hu
  · exact hu
  · simp at hu
theorem listA_src_drop (hcs : ∀ a, (cs a).length = size) {g : Nat} (h : (listA e size cs (some ⟨g, 0, none⟩) c l).holds w) {k : Nat} (hk : k ≤ l.length) : Src w (some ⟨g, k * size, none⟩) size (l.length - k) ((l.drop k).flatMap cs) := by
  obtain ⟨h1, h2⟩ := listA_src hcs h
  refine ⟨by rw [flatMap_len hcs, List.length_drop], fun hp => ?_⟩
  obtain ⟨b, off, he, hc⟩ := h2 (by omega)
  injection he with he
  injection he with e1 e2
  subst e1 e2
  refine ⟨g, k * size, rfl, fun j u hu => ?_⟩
  rw [flatMap_drop hcs, List.getElem?_drop] at hu
  have := hc _ u hu
  rwa [Nat.zero_add] at this
end
end Go.Tk
