/-
  GENERAL WORDS on maps, over any program: a map's block as a list of keys and values in the order in which the keys came. Look-up, store, delete, len at the operation; what is kept.
-/
import Derived.Test.YtomcekjhehceoaaKit
import Derived.Maps.OwnSet
set_option linter.unusedVariables false
set_option linter.unusedSimpArgs false
set_option linter.unusedSectionVars false
namespace Go.Tk
open Go.RowKit Go.WideShapes Go.ChangeShapes Go.MapKept
open Go.Maps (Keyed)

/-! ### lists of keys and values -/
section
variable {K V : Type} [DecidableEq K]
def mget (m : List (K × V)) (k : K) : Option V := (m.find? (fun p => decide (p.1 = k))).map (·.2)
def mset : List (K × V) → K → V → List (K × V)
  | [], k, v => [(k, v)]
  | p :: r, k, v => if p.1 = k then (k, v) :: r else p :: mset r k v
def mdel : List (K × V) → K → List (K × V)
  | [], _ => []
  | p :: r, k => if p.1 = k then r else p :: mdel r k
def keysOf (m : List (K × V)) : List K := m.map (·.1)
@[simp] theorem mget_nil (k : K) : mget ([] : List (K × V)) k = none := rfl
theorem mget_cons (p : K × V) (r : List (K × V)) (k : K) : mget (p :: r) k = if p.1 = k then some p.2 else mget r k := by
  unfold mget
  by_cases h : p.1 = k <;> simp [List.find?_cons, h]
theorem mget_none {m : List (K × V)} {k : K} : mget m k = none ↔ k ∉ keysOf m := by
  induction m with
  | nil => simp [keysOf]
  | cons p r ih =>
    rw [mget_cons]
    by_cases h : p.1 = k
    · simp [h, keysOf]
    · simp only [h, if_false, ih, keysOf, List.map_cons, List.mem_cons, not_or]
      exact ⟨fun hh => ⟨fun e => h e.symm, hh⟩, fun hh => hh.2⟩
theorem mget_mset (m : List (K × V)) (k : K) (v : V) (j : K) : mget (mset m k v) j = if k = j then some v else mget m j := by
  induction m with
  | nil => simp [mset, mget_cons]
  | cons p r ih =>
    unfold mset
    by_cases h : p.1 = k
    · rw [if_pos h, mget_cons, mget_cons]
      by_cases e : k = j
      · simp [e]
      · simp [e, h]
    · rw [if_neg h, mget_cons, mget_cons, ih]
      by_cases e : p.1 = j
      · simp only [e, if_true]
        by_cases e2 : k = j
        · exact absurd (e.trans e2.symm) h
        · simp [e2]
      · simp [e]
theorem keys_mset (m : List (K × V)) (k : K) (v : V) : keysOf (mset m k v) = if k ∈ keysOf m then keysOf m else keysOf m ++ [k] := by
  induction m with
  | nil => simp [mset, keysOf]
  | cons p r ih =>
    unfold mset
    by_cases h : p.1 = k
    · simp [h, keysOf]
    · rw [if_neg h]
      simp only [keysOf, List.map_cons, List.mem_cons] at ih ⊢
      rw [ih]
      by_cases e : k ∈ List.map (·.1) r
      · simp [e]
      · simp [e, Ne.symm h]
theorem nodup_mset {m : List (K × V)} (h : (keysOf m).Nodup) (k : K) (v : V) : (keysOf (mset m k v)).Nodup := by
  rw [keys_mset]
  split
  · exact h
  · rename_i hk
    rw [List.nodup_append]
    exact ⟨h, by simp, fun a ha b hb => by simp at hb; subst hb; exact fun e => hk (e ▸ ha)⟩
theorem keys_mdel_sub (m : List (K × V)) (k : K) : (mdel m k).Sublist m := by
  induction m with
  | nil => exact List.Sublist.refl _
  | cons p r ih =>
    unfold mdel
    split
    · exact List.sublist_cons_self _ _
    · exact ih.cons_cons _
theorem nodup_mdel {m : List (K × V)} (h : (keysOf m).Nodup) (k : K) : (keysOf (mdel m k)).Nodup := List.Nodup.sublist ((keys_mdel_sub m k).map _) h
theorem mget_mdel {m : List (K × V)} (h : (keysOf m).Nodup) (k j : K) : mget (mdel m k) j = if k = j then none else mget m j := by
  induction m with
  | nil => simp [mdel]
  | cons p r ih =>
    have h2 : (keysOf r).Nodup := (List.nodup_cons.1 h).2
    have h1 : p.1 ∉ keysOf r := (List.nodup_cons.1 h).1
    unfold mdel
    by_cases e : p.1 = k
    · rw [if_pos e, mget_cons]
      by_cases e2 : k = j
      · rw [if_pos e2]
        exact mget_none.2 (e2 ▸ e ▸ h1)
      · simp [e2, e]
    · rw [if_neg e, mget_cons, mget_cons, ih h2]
      by_cases e2 : p.1 = j
      · simp only [e2, if_true]
        rw [if_neg (fun e3 => e (e2.trans e3.symm))]
      · simp [e2]
theorem mdel_len {m : List (K × V)} {k : K} (h : k ∈ keysOf m) : (mdel m k).length + 1 = m.length := by
  induction m with
  | nil => simp [keysOf] at h
  | cons p r ih =>
    unfold mdel
    by_cases e : p.1 = k
    · simp [e]
    · rw [if_neg e]
      simp only [keysOf, List.map_cons, List.mem_cons] at h
      have := ih (h.resolve_left (fun x => e x.symm))
      simp; omega
theorem mset_len (m : List (K × V)) (k : K) (v : V) : (mset m k v).length = if k ∈ keysOf m then m.length else m.length + 1 := by
  have h := congrArg List.length (keys_mset m k v)
  simp only [keysOf, List.length_map] at h
  rw [h]
  unfold keysOf
  split <;> simp
theorem mem_mset {m : List (K × V)} {k : K} {v : V} {p : K × V} (h : p ∈ mset m k v) : p = (k, v) ∨ p ∈ m := by
  induction m with
  | nil => simp [mset] at h; exact .inl h
  | cons q r ih =>
    unfold mset at h
    split at h
    · rcases List.mem_cons.1 h with h | h
      · exact .inl h
      · exact .inr (List.mem_cons_of_mem _ h)
    · rcases List.mem_cons.1 h with h | h
      · exact .inr (by rw [h]; exact List.mem_cons_self ..)
      · exact (ih h).imp id (List.mem_cons_of_mem _)
theorem mget_mem {m : List (K × V)} {k : K} {v : V} (h : mget m k = some v) : (k, v) ∈ m := by
  induction m with
  | nil => simp at h
  | cons q r ih =>
    rw [mget_cons] at h
    split at h
    · rename_i e
      simp at h
      rw [← e, ← h]
      exact List.mem_cons_self ..
    · exact List.mem_cons_of_mem _ (ih h)
theorem mget_at {m : List (K × V)} (h : (keysOf m).Nodup) {j : Nat} {k : K} {v : V} (hj : m[j]? = some (k, v)) : mget m k = some v := by
  induction m generalizing j with
  | nil => simp at hj
  | cons q r ih =>
    rw [mget_cons]
    cases j with
    | zero => simp at hj; simp [hj]
    | succ j =>
      simp at hj
      have : q.1 ≠ k := fun e => (List.nodup_cons.1 h).1 (by show q.1 ∈ _; rw [e]; exact List.mem_map_of_mem (f := Prod.fst) (List.mem_of_getElem? hj))
      rw [if_neg this]
      exact ih (List.nodup_cons.1 h).2 hj
theorem mset_at {m : List (K × V)} (h : (keysOf m).Nodup) {j : Nat} {k : K} {v v' : V} (hj : m[j]? = some (k, v)) : mset m k v' = m.set j (k, v') := by
  induction m generalizing j with
  | nil => simp at hj
  | cons q r ih =>
    unfold mset
    cases j with
    | zero => simp at hj; simp [hj]
    | succ j =>
      simp at hj
      have : q.1 ≠ k := fun e => (List.nodup_cons.1 h).1 (by show q.1 ∈ _; rw [e]; exact List.mem_map_of_mem (f := Prod.fst) (List.mem_of_getElem? hj))
      rw [if_neg this, ih (List.nodup_cons.1 h).2 hj]
      rfl
theorem mdel_at {m : List (K × V)} (h : (keysOf m).Nodup) {j : Nat} {k : K} {v : V} (hj : m[j]? = some (k, v)) : mdel m k = m.eraseIdx j := by
  induction m generalizing j with
  | nil => simp at hj
  | cons q r ih =>
    unfold mdel
    cases j with
    | zero => simp at hj; simp [hj]
    | succ j =>
      simp at hj
      have : q.1 ≠ k := fun e => (List.nodup_cons.1 h).1 (by show q.1 ∈ _; rw [e]; exact List.mem_map_of_mem (f := Prod.fst) (List.mem_of_getElem? hj))
      rw [if_neg this, ih (List.nodup_cons.1 h).2 hj]
      rfl
theorem mset_new {m : List (K × V)} {k : K} {v : V} (h : mget m k = none) : mset m k v = m ++ [(k, v)] := by
  induction m with
  | nil => rfl
  | cons q r ih =>
    rw [mget_cons] at h
    unfold mset
    split at h
    · simp at h
    · rename_i e
      rw [if_neg e, ih h]
      rfl
theorem mdel_none {m : List (K × V)} {k : K} (h : mget m k = none) : mdel m k = m := by
  induction m with
  | nil => rfl
  | cons q r ih =>
    rw [mget_cons] at h
    unfold mdel
    split at h
    · simp at h
    · rename_i e
      rw [if_neg e, ih h]
end

/-! ### a map's block -/
/-- A kind of keys: how a key stands as a value. -/
structure KeyTy (P : Program) (kt : TypeId) (K : Type) where
  kv : K → Value
  ok : K → Prop
  law : Keyed P kt
  reads : ∀ k, ok k → ∃ l, keyOf P kt (kv k) = some l
  inj : ∀ a b, ok a → ok b → kv a = kv b → a = b

/-- Block b's map, entries set. (Unchanged where b is no map.) -/
def _root_.Go.World.setMap (w : World) (b : Nat) (es : Array MapEntry) (c : Nat) : World :=
  match w.heap[b]? with
  | some (.map _ _) => { w with heap := w.heap.setIfInBounds b (.map es c) }
  | _ => w
section
variable {w : World} {b : Nat} {es : Array MapEntry} {c : Nat}
theorem setMap_of {es0 : Array MapEntry} {c0 : Nat} (h : w.heap[b]? = some (.map es0 c0)) : w.setMap b es c = { w with heap := w.heap.setIfInBounds b (.map es c) } := by
  simp [World.setMap, h]
theorem size_setMap : (w.setMap b es c).heap.size = w.heap.size := by
  unfold World.setMap
  split <;> simp
theorem heap_setMap_other {i : Nat} (h : i ≠ b) : (w.setMap b es c).heap[i]? = w.heap[i]? := by
  unfold World.setMap
  split
  · exact Array.getElem?_setIfInBounds_ne (Ne.symm h)
  · rfl
theorem heap_setMap_same {es0 : Array MapEntry} {c0 : Nat} (h : w.heap[b]? = some (.map es0 c0)) : (w.setMap b es c).heap[b]? = some (.map es c) := by
  rw [setMap_of h]
  have hlt : b < w.heap.size := (Array.getElem?_eq_some_iff.1 h).1
  simp [hlt]
theorem cell?_setMap {a : Addr} : (w.setMap b es c).cell? a = w.cell? a := by
  unfold World.cell?
  by_cases h : a.block = b
  · subst h
    cases hh : w.heap[a.block]? with
    | none => simp [World.setMap, hh]
    | some o =>
      cases o <;> first | (rw [heap_setMap_same hh]; done) | (simp [World.setMap, hh]; done)
  · rw [heap_setMap_other h]
theorem frozen?_setMap {a : Addr} : (w.setMap b es c).frozen? a = w.frozen? a := by
  unfold World.frozen?
  by_cases h : a.block = b
  · subst h
    cases hh : w.heap[a.block]? with
    | none => simp [World.setMap, hh]
    | some o =>
      cases o <;> first | (rw [heap_setMap_same hh]; done) | (simp [World.setMap, hh]; done)
  · rw [heap_setMap_other h]
theorem setMap_os : (w.setMap b es c).os = w.os ∧ (w.setMap b es c).tape = w.tape ∧ (w.setMap b es c).output = w.output := by
  unfold World.setMap
  split <;> exact ⟨rfl, rfl, rfl⟩
theorem below_setMap {B : Nat} {a : World} (h : Below B a w) (hb : B ≤ b) : Below B a (w.setMap b es c) :=
  h.trans ⟨setMap_os.1, setMap_os.2.1, setMap_os.2.2, by rw [size_setMap]; exact Nat.le_refl _, fun k hk => heap_setMap_other (by omega)⟩
theorem setMap_ext {x : Ext} (h : b < w.heap.size) : (w.ext x).setMap b es c = (w.setMap b es c).ext x := by
  unfold World.setMap
  rw [heap_ext h]
  split
  · show World.mk _ _ _ _ _ = World.mk _ _ _ _ _
    congr 1
    show (w.heap ++ x.objs).setIfInBounds b (.map es c) = w.heap.setIfInBounds b (.map es c) ++ x.objs
    apply Array.ext_getElem?
    intro i
    by_cases hi : i < w.heap.size
    · rw [Array.getElem?_append_left (by simpa using hi)]
      by_cases hb : b = i
      · subst hb
        simp [h, Nat.lt_add_right]
      · rw [Array.getElem?_setIfInBounds_ne hb, Array.getElem?_setIfInBounds_ne hb, Array.getElem?_append_left hi]
    · rw [Array.getElem?_append_right (by simpa using hi), Array.getElem?_setIfInBounds_ne (by omega), Array.getElem?_append_right (by omega)]
      simp
  · rfl
end
attribute [go_sem] size_setMap cell?_setMap frozen?_setMap setMap_ext

section
variable {P : Program} {kt : TypeId} {K V : Type} [DecidableEq K] (κ : KeyTy P kt K) (vv : V → Value)
/-- Block b is a map that holds just these, in this order. -/
def MapAt (w : World) (b : Nat) (m : List (K × V)) : Prop :=
  ∃ es c, w.heap[b]? = some (.map es c) ∧ es.toList.map (fun e => (e.key, e.val)) = m.map (fun p => (κ.kv p.1, vv p.2)) ∧ (∀ p ∈ m, κ.ok p.1) ∧ (keysOf m).Nodup ∧ Stamped es c
variable {κ vv} {w : World} {b : Nat} {m : List (K × V)}
theorem MapAt.lt (h : MapAt κ vv w b m) : b < w.heap.size := by
  obtain ⟨es, c, hb, _⟩ := h
  exact (Array.getElem?_eq_some_iff.1 hb).1
theorem MapAt.nodup (h : MapAt κ vv w b m) : (keysOf m).Nodup := by
  obtain ⟨es, c, _, _, _, h4, _⟩ := h
  exact h4
theorem MapAt.of_heap {w' : World} (h : MapAt κ vv w b m) (e : w'.heap[b]? = w.heap[b]?) : MapAt κ vv w' b m := by
  obtain ⟨es, c, hb, hr⟩ := h
  exact ⟨es, c, e.trans hb, hr⟩
theorem MapAt.ext (h : MapAt κ vv w b m) {x : Ext} : MapAt κ vv (w.ext x) b m := h.of_heap (heap_ext h.lt)
theorem MapAt.alloc (h : MapAt κ vv w b m) (o : Obj) : MapAt κ vv (w.alloc o) b m := h.of_heap (Below.heap_alloc w o b h.lt)
theorem MapAt.drew (h : MapAt κ vv w b m) : MapAt κ vv w.drew b m := h
theorem MapAt.drewN (h : MapAt κ vv w b m) {n : Nat} : MapAt κ vv (w.drewN n) b m := h
theorem MapAt.setCell (h : MapAt κ vv w b m) {a : Addr} {v : Value} : MapAt κ vv (w.setCell a v) b m := by
  obtain ⟨es, c, hb, hr⟩ := h
  refine ⟨es, c, ?_, hr⟩
  simp only [World.setCell, Array.getElem?_modify]
  split
  · rw [hb]; rfl
  · exact hb
theorem MapAt.setMap (h : MapAt κ vv w b m) {b' : Nat} (hne : b ≠ b') {es : Array MapEntry} {c : Nat} : MapAt κ vv (w.setMap b' es c) b m := h.of_heap (heap_setMap_other hne)
theorem MapAt.below {w' : World} {B : Nat} (h : MapAt κ vv w b m) (hb : Below B w w') (hlt : b < B) : MapAt κ vv w' b m := h.of_heap (hb.block b hlt)
theorem MapAt.made : MapAt κ vv (w.alloc (.map #[] 0)) w.heap.size ([] : List (K × V)) :=
  ⟨#[], 0, (MapKept.heap_alloc w _).1, by simp, by simp, by simp [keysOf], stamped_empty 0⟩

/-- where a key stands -/
theorem MapAt.find {es : List MapEntry} (hes : es.map (fun e => (e.key, e.val)) = m.map (fun p => (κ.kv p.1, vv p.2))) (hok : ∀ p ∈ m, κ.ok p.1) (hnd : (keysOf m).Nodup) {k : K} (hk : κ.ok k) (w : World) :
    ((Instr.findKey kt (κ.kv k) es).run P w = .ok none w ∧ mget m k = none ∧ ∀ e ∈ es, e.key ≠ κ.kv k) ∨
    ∃ j e v, (Instr.findKey kt (κ.kv k) es).run P w = .ok (some (j, e.val)) w ∧ es[j]? = some e ∧ e.key = κ.kv k ∧ mget m k = some v ∧ e.val = vv v ∧ m[j]? = some (k, v) := by
  obtain ⟨l, hl⟩ := κ.reads k hk
  have hkeys : ∀ e ∈ es, ∃ l, keyOf P kt e.key = some l := by
    intro e he
    have : (e.key, e.val) ∈ m.map (fun p => (κ.kv p.1, vv p.2)) := hes ▸ List.mem_map_of_mem (f := fun e : MapEntry => (e.key, e.val)) he
    obtain ⟨p, hp, e1⟩ := List.mem_map.1 this
    simp only [Prod.mk.injEq] at e1
    rw [← e1.1]
    exact κ.reads _ (hok p hp)
  rcases κ.law.find w hl es hkeys with ⟨h1, h2⟩ | ⟨j, e, h1, h2, h3⟩
  · refine .inl ⟨h1, ?_, h2⟩
    rw [mget_none]
    intro hmem
    obtain ⟨p, hp, e1⟩ := List.mem_map.1 hmem
    have : (κ.kv p.1, vv p.2) ∈ es.map (fun e => (e.key, e.val)) := hes ▸ List.mem_map_of_mem (f := fun p : K × V => (κ.kv p.1, vv p.2)) hp
    obtain ⟨e, he, e2⟩ := List.mem_map.1 this
    simp only [Prod.mk.injEq] at e2
    exact h2 e he (by rw [e2.1, e1])
  · have hj : (m.map (fun p => (κ.kv p.1, vv p.2)))[j]? = some (e.key, e.val) := by rw [← hes, List.getElem?_map, h2]; rfl
    rw [List.getElem?_map, Option.map_eq_some_iff] at hj
    obtain ⟨⟨k', v⟩, hm, e1⟩ := hj
    simp only [Prod.mk.injEq] at e1
    have hk' : k' = k := κ.inj _ _ (hok _ (List.mem_of_getElem? hm)) hk (by rw [e1.1, h3])
    subst hk'
    exact .inr ⟨j, e, v, h1, h2, h3, mget_at hnd hm, e1.2.symm, hm⟩

/-- 'm[k]', 'v, ok := m[k]' -/
theorem MapAt.lookup (h : MapAt κ vv w b m) {t e : TypeId} (ht : P.underlying t = some (.map kt e)) {z : Value} (hz : ∀ w, (zeroValue e).run P w = .ok z w) {k : K} (hk : κ.ok k) (co : Bool) :
    (Instr.lookup t (.map (some b)) (κ.kv k) co).run P w = .ok (if co then .tuple #[((mget m k).map vv).getD z, .bool (mget m k).isSome] else ((mget m k).map vv).getD z) w := by
  obtain ⟨es, c, hb, hes, hok, hnd, hst⟩ := h
  obtain ⟨l, hl⟩ := κ.reads k hk
  rcases MapAt.find hes hok hnd hk w with ⟨h1, h2, _⟩ | ⟨j, e0, v, h1, h2, h3, h4, h5, h6⟩
  · simp only [Instr.lookup, Sem.run_bind, run_underlying ht, Result.andThen, MapKept.run_getObj_map hb, Sem.run_pure, κ.law.check w _ hl, h1, hz, h2]
    cases co <;> simp
  · simp only [Instr.lookup, Sem.run_bind, run_underlying ht, Result.andThen, MapKept.run_getObj_map hb, Sem.run_pure, κ.law.check w _ hl, h1, h4, h5]
    cases co <;> simp
theorem map_set' {α β : Type} (f : α → β) : ∀ (l : List α) (j : Nat) (a : α), (l.set j a).map f = (l.map f).set j (f a)
  | [], _, _ => rfl
  | _ :: _, 0, _ => rfl
  | x :: r, j + 1, a => by simp
/-- 'm[k] = v' -/
theorem MapAt.update (h : MapAt κ vv w b m) {t e : TypeId} (ht : P.underlying t = some (.map kt e)) {k : K} (hk : κ.ok k) (v : V) :
    ∃ es c, (Instr.mapUpdate t (.map (some b)) (κ.kv k) (vv v)).run P w = .ok () (w.setMap b es c) ∧ MapAt κ vv (w.setMap b es c) b (mset m k v) := by
  obtain ⟨es, c, hb, hes, hok, hnd, hst⟩ := h
  obtain ⟨l, hl⟩ := κ.reads k hk
  have hok' : ∀ p ∈ mset m k v, κ.ok p.1 := fun p hp => by
    rcases mem_mset hp with rfl | h
    · exact hk
    · exact hok p h
  rcases MapAt.find hes hok hnd hk w with ⟨h1, h2, h3⟩ | ⟨j, e0, v0, h1, h2, h3, h4, h5, h6⟩
  · refine ⟨es.push ⟨κ.kv k, vv v, c⟩, c + 1, ?_, es.push ⟨κ.kv k, vv v, c⟩, c + 1, heap_setMap_same hb, ?_, hok', nodup_mset hnd k v, stamped_push hst h3⟩
    · simp [Instr.mapUpdate, run_underlying ht, MapKept.run_getObj_map hb, κ.law.check w false hl, h1, MapKept.run_setObj_map _ hb, Result.andThen, setMap_of hb]
    · rw [mset_new h2, Array.toList_push, List.map_append, hes, List.map_append]
      rfl
  · have hj : es[j]? = some e0 := by simpa using h2
    have hlist : (es.modify j (fun e' => { e' with key := κ.kv k, val := vv v })).toList = es.toList.set j { e0 with key := κ.kv k, val := vv v } := by
      rw [Array.toList_modify, ChangeMaps.modify_eq_set _ _ _ _ h2]
    refine ⟨es.modify j (fun e' => { e' with key := κ.kv k, val := vv v }), c, ?_, _, _, heap_setMap_same hb, ?_, hok', nodup_mset hnd k v, ?_⟩
    · simp [Instr.mapUpdate, run_underlying ht, MapKept.run_getObj_map hb, κ.law.check w false hl, h1, hj, h3, κ.law.stays w hl, MapKept.run_setObj_map _ hb, Result.andThen, setMap_of hb]
    · rw [hlist, map_set', hes, mset_at hnd h6, map_set']
    · obtain ⟨s1, s2, s3⟩ := hst
      have hb0 : ∀ {β : Type} (f : MapEntry → β), f { e0 with key := κ.kv k, val := vv v } = f e0 → (es.toList.set j { e0 with key := κ.kv k, val := vv v }).map f = es.toList.map f := by
        intro β f hf
        rw [map_set', hf]
        apply List.ext_getElem?
        intro i
        rw [List.getElem?_set]
        split
        · rename_i hi
          subst hi
          rw [List.getElem?_map, h2]
          simp
          exact (List.getElem?_eq_some_iff.1 h2).1
        · rfl
      refine ⟨?_, ?_, ?_⟩
      · rw [hlist]
        intro x hx
        rcases List.mem_or_eq_of_mem_set hx with hx | rfl
        · exact s1 x hx
        · exact s1 e0 (List.mem_of_getElem? h2)
      · rw [hlist, hb0 _ rfl]
        exact s2
      · rw [hlist, hb0 _ (by simp [h3])]
        exact s3
/-- 'delete(m, k)' -/
theorem MapAt.delete (h : MapAt κ vv w b m) {t kt' ty : TypeId} {e : TypeId} (ht : P.underlying t = some (.map kt e)) {k : K} (hk : κ.ok k) :
    ∃ es c, (Builtin.delete_ #[t, kt'] ty #[.map (some b), κ.kv k]).run P w = .ok (.tuple #[]) (w.setMap b es c) ∧ MapAt κ vv (w.setMap b es c) b (mdel m k) := by
  obtain ⟨es, c, hb, hes, hok, hnd, hst⟩ := h
  obtain ⟨l, hl⟩ := κ.reads k hk
  have hok' : ∀ p ∈ mdel m k, κ.ok p.1 := fun p hp => hok p ((keys_mdel_sub m k).mem hp)
  rcases MapAt.find hes hok hnd hk w with ⟨h1, h2, h3⟩ | ⟨j, e0, v0, h1, h2, h3, h4, h5, h6⟩
  · refine ⟨es, c, ?_, es, c, heap_setMap_same hb, ?_, hok', nodup_mdel hnd k, hst⟩
    · simp [Builtin.delete_, run_underlying ht, MapKept.run_getObj_map hb, κ.law.check w _ hl, h1, MapKept.run_setObj_map _ hb, Result.andThen, setMap_of hb]
    · rw [mdel_none h2, hes]
  · have hlist : (es.eraseIdxIfInBounds j).toList = es.toList.eraseIdx j := by simp
    refine ⟨es.eraseIdxIfInBounds j, c, ?_, _, _, heap_setMap_same hb, ?_, hok', nodup_mdel hnd k, ?_⟩
    · simp [Builtin.delete_, run_underlying ht, MapKept.run_getObj_map hb, κ.law.check w _ hl, h1, MapKept.run_setObj_map _ hb, Result.andThen, setMap_of hb]
    · rw [hlist, ChangeMaps.map_eraseIdx, hes, mdel_at hnd h6, ChangeMaps.map_eraseIdx]
    · obtain ⟨s1, s2, s3⟩ := hst
      have hsub : (es.toList.eraseIdx j).Sublist es.toList := List.eraseIdx_sublist _ _
      refine ⟨?_, ?_, ?_⟩
      · rw [hlist]
        exact fun x hx => s1 x (hsub.mem hx)
      · rw [hlist]
        exact List.Nodup.sublist (hsub.map _) s2
      · rw [hlist]
        exact List.Nodup.sublist (hsub.map _) s3
theorem MapAt.len (h : MapAt κ vv w b m) {t e : TypeId} (ht : P.underlying t = some (.map kt e)) (ty : TypeId) : (Builtin.len_ #[t] ty #[.map (some b)]).run P w = .ok (.int .i64 m.length) w := by
  obtain ⟨es, c, hb, hes, _⟩ := h
  have hl := congrArg List.length hes
  simp only [List.length_map, Array.length_toList] at hl
  simp [Builtin.len_, run_underlying ht, MapKept.run_getObj_map hb, Result.andThen, hl, goInt]

/-! ### at the operation, for the walk -/
variable {ops : Array Oper} {rest : List Oper} {o : Oper} {a : Act} {Q : Exit → Act → World → Prop}
theorem wpList_mapUpdate_at (hg : o.guard = none) (mo x v : Operand) (t : TypeId) (hop : o.op = Op.mapUpdate t mo x v) {e : TypeId} (ht : P.underlying t = some (.map kt e))
    (hm : a.eval mo = .map (some b)) (hat : MapAt κ vv w b m) (k : K) (hk : κ.ok k) (u : V) (hx : a.eval x = κ.kv k) (hv : a.eval v = vv u)
    (hK : ∀ es c, MapAt κ vv (w.setMap b es c) b (mset m k u) → wpList P ops Q rest (a.put o.dst undef) (w.setMap b es c)) : wpList P ops Q (o :: rest) a w := by
  refine wpList_plain hg fun K' hK' => ?_
  obtain ⟨es, c, hrun, r1⟩ := hat.update ht hk u
  unfold Oper.wp
  simp [execOp, hop, hm, hx, hv, hrun, Result.andThen]
  exact hK' _ _ (hK es c r1)
theorem wpList_lookup_at (hg : o.guard = none) (mo x : Operand) (t : TypeId) (co : Bool) (hop : o.op = Op.lookup t mo x co) {e : TypeId} (ht : P.underlying t = some (.map kt e)) {z : Value} (hz : ∀ w, (zeroValue e).run P w = .ok z w)
    (hm : a.eval mo = .map (some b)) (hat : MapAt κ vv w b m) (k : K) (hk : κ.ok k) (hx : a.eval x = κ.kv k) (r : Value) (hr : (if co then .tuple #[((mget m k).map vv).getD z, .bool (mget m k).isSome] else ((mget m k).map vv).getD z) = r)
    (hK : wpList P ops Q rest (a.put o.dst r) w) : wpList P ops Q (o :: rest) a w := by
  refine wpList_plain hg fun K' hK' => ?_
  have hrun := hat.lookup ht hz hk co
  rw [hr] at hrun
  unfold Oper.wp
  simp [execOp, hop, hm, hx, hrun, Result.andThen]
  exact hK' _ _ hK
theorem wpList_delete_at (hg : o.guard = none) (mo x : Operand) (t kt' : TypeId) (hop : o.op = Op.call { callee := Callee.builtin Builtin.delete, args := #[mo, x], argTypes := #[t, kt'] }) {e : TypeId} (ht : P.underlying t = some (.map kt e))
    (hm : a.eval mo = .map (some b)) (hat : MapAt κ vv w b m) (k : K) (hk : κ.ok k) (hx : a.eval x = κ.kv k)
    (hK : ∀ es c, MapAt κ vv (w.setMap b es c) b (mdel m k) → wpList P ops Q rest (a.put o.dst (.tuple #[])) (w.setMap b es c)) : wpList P ops Q (o :: rest) a w := by
  refine wpList_plain hg fun K' hK' => ?_
  obtain ⟨es, c, hrun, r1⟩ := hat.delete (kt' := kt') (ty := o.type) ht hk
  unfold Oper.wp
  simp [execOp, hop, resolve, invoke, builtin, hm, hx, hrun, Result.andThen]
  exact hK' _ _ (hK es c r1)
theorem wpList_len_at (hg : o.guard = none) (mo : Operand) (t : TypeId) (hop : o.op = Op.call { callee := Callee.builtin Builtin.len, args := #[mo], argTypes := #[t] }) {e : TypeId} (ht : P.underlying t = some (.map kt e))
    (hm : a.eval mo = .map (some b)) (hat : MapAt κ vv w b m) (hK : wpList P ops Q rest (a.put o.dst (.int .i64 m.length)) w) : wpList P ops Q (o :: rest) a w := by
  refine wpList_plain hg fun K' hK' => ?_
  unfold Oper.wp
  simp [execOp, hop, resolve, invoke, builtin, hm, hat.len ht o.type, Result.andThen]
  exact hK' _ _ hK
end
/-- integers as keys -/
def intKey {P : Program} {kt : TypeId} {q : IntKind} (hk : P.underlying kt = some (.int q)) : KeyTy P kt Int where
  kv n := .int q n
  ok n := (Lit.int q n).wf = true
  law := Maps.int_keyed hk
  reads _ h := ⟨_, Maps.keyOf_int_mk hk h⟩
  inj a b _ _ h := by simpa using h
end Go.Tk
