/- PLAIN LAW: the document's list of nodes and the program's map answer alike (DetectPlays). No program in sight. -/
import Derived.Test.YtobiodbdnpcanaaTellsPlain09
import Derived.Test.YtobiodbdnpcanaaRefPl09
set_option linter.unusedVariables false
set_option linter.unusedSimpArgs false
namespace Go.Proofs.Ytobiodbdnpcanaa
open Go.Tk
/-- a node is put in by its number -/
def insR (id : Int) (p : Peer) : List (Int × Peer) → List (Int × Peer)
  | [] => [(id, p)]
  | q :: m => if id < q.1 then (id, p) :: q :: m else q :: insR id p m
def insStep (id : Int) (p : Peer) (s : List (Int × Peer) × Bool) (q : Int × Peer) : List (Int × Peer) × Bool :=
  if (!s.2 && decide (id < q.1)) = true then (s.1 ++ [(id, p)] ++ [q], true) else (s.1 ++ [q], s.2)
theorem insFold_t (id : Int) (p : Peer) : ∀ (m l : List (Int × Peer)), m.foldl (insStep id p) (l, true) = (l ++ m, true)
  | [], l => by simp
  | q :: m, l => by rw [List.foldl_cons, show insStep id p (l, true) q = (l ++ [q], true) by simp [insStep], insFold_t id p m]; simp
theorem insFold (id : Int) (p : Peer) : ∀ (m l : List (Int × Peer)), (if (m.foldl (insStep id p) (l, false)).2 = true then (m.foldl (insStep id p) (l, false)).1 else (m.foldl (insStep id p) (l, false)).1 ++ [(id, p)]) = l ++ insR id p m
  | [], l => by simp [insR]
  | q :: m, l => by
    by_cases h : id < q.1
    · rw [List.foldl_cons, show insStep id p (l, false) q = (l ++ [(id, p)] ++ [q], true) by simp [insStep, h], insFold_t id p m]
      simp [insR, h]
    · rw [List.foldl_cons, show insStep id p (l, false) q = (l ++ [q], false) by simp [insStep, h], insFold id p m]
      simp [insR, h]
theorem insFold_len (id : Int) (p : Peer) : ∀ (m : List (Int × Peer)) (s : List (Int × Peer) × Bool), (m.foldl (insStep id p) s).1.length ≤ s.1.length + 2 * m.length
  | [], s => by simp
  | q :: m, s => by
    rw [List.foldl_cons]
    refine Nat.le_trans (insFold_len id p m _) ?_
    have : (insStep id p s q).1.length ≤ s.1.length + 2 := by unfold insStep; split <;> simp
    simp only [List.length_cons]
    omega
theorem mem_insR {id : Int} {p : Peer} : ∀ {m : List (Int × Peer)} {q : Int × Peer}, q ∈ insR id p m ↔ q = (id, p) ∨ q ∈ m
  | [], q => by simp [insR]
  | x :: m, q => by
    unfold insR
    split
    · simp
    · rw [List.mem_cons, mem_insR, List.mem_cons]
      constructor
      · rintro (h | h | h) <;> simp [h]
      · rintro (h | h | h) <;> simp [h]
theorem mget_insR {id : Int} {p : Peer} : ∀ {m : List (Int × Peer)}, mget m id = none → ∀ j, mget (insR id p m) j = if id = j then some p else mget m j
  | [], _, j => by simp [insR, mget_cons]
  | x :: m, h, j => by
    rw [mget_cons] at h
    have hx : ¬ x.1 = id := fun e => by rw [if_pos e] at h; exact absurd h (by simp)
    rw [if_neg hx] at h
    unfold insR
    split
    · rw [mget_cons]
    · rw [mget_cons, mget_insR h, mget_cons]
      by_cases e : id = j
      · subst e; simp [hx]
      · simp [e]
theorem up_insR {id : Int} {p : Peer} : ∀ {m : List (Int × Peer)}, id ∉ keysOf m → (keysOf m).Pairwise (fun a b => a < b) → (keysOf (insR id p m)).Pairwise (fun a b => a < b)
  | [], _, _ => by simp [insR, keysOf]
  | x :: m, hn, h => by
    have h' := List.pairwise_cons.1 (by simpa [keysOf] using h : (x.1 :: m.map (·.1)).Pairwise (fun a b => a < b))
    simp only [keysOf, List.map_cons, List.mem_cons, not_or] at hn
    unfold insR
    split
    · rename_i hlt
      simp only [keysOf, List.map_cons]
      refine List.pairwise_cons.2 ⟨fun a ha => ?_, List.pairwise_cons.2 h'⟩
      rcases List.mem_cons.1 ha with rfl | ha
      · exact hlt
      · have := h'.1 a ha; omega
    · rename_i hlt
      simp only [keysOf, List.map_cons]
      refine List.pairwise_cons.2 ⟨fun a ha => ?_, up_insR (p := p) hn.2 h'.2⟩
      obtain ⟨q, hq, rfl⟩ := List.mem_map.1 ha
      rcases mem_insR.1 hq with rfl | hq
      · have := hn.1; simp only; omega
      · exact h'.1 _ (List.mem_map.2 ⟨q, hq, rfl⟩)
theorem len_insR {id : Int} {p : Peer} : ∀ (m : List (Int × Peer)), (insR id p m).length = m.length + 1
  | [] => rfl
  | x :: m => by unfold insR; split <;> simp [len_insR m]
/-- the map and the list -/
structure Rel (m r : List (Int × Peer)) : Prop where
  nd : (keysOf m).Nodup
  up : (keysOf r).Pairwise (fun a b => a < b)
  get : ∀ j, mget m j = mget r j
  ok : ∀ q ∈ m, q.2.ok
  key : ∀ id ∈ keysOf m, 0 ≤ id ∧ id ≤ 255
  size : m.length ≤ 12
theorem Rel.nil : Rel [] [] := ⟨by simp [keysOf], by simp [keysOf], fun _ => rfl, by simp, by simp [keysOf], by simp⟩
section
variable {m r : List (Int × Peer)}
theorem Rel.nd' (h : Rel m r) : (keysOf r).Nodup := h.up.imp (fun h => by omega)
theorem Rel.mem (h : Rel m r) (id : Int) : id ∈ keysOf m ↔ id ∈ keysOf r := by
  constructor
  · intro hi
    apply Classical.byContradiction
    intro hn
    have := mget_none.2 hn
    rw [← h.get] at this
    exact (mget_none.1 this) hi
  · intro hi
    apply Classical.byContradiction
    intro hn
    have := mget_none.2 hn
    rw [h.get] at this
    exact (mget_none.1 this) hi
theorem Rel.len (h : Rel m r) : r.length = m.length := by
  have := ((List.perm_ext_iff_of_nodup h.nd h.nd').2 h.mem).length_eq
  simpa [keysOf] using this.symm
theorem Rel.sorted (h : Rel m r) : (keysOf m).mergeSort leB = keysOf r := by
  obtain ⟨h1, h2, h3⟩ := sorted_keys m h.nd
  exact rising_eq _ _ h2 h.up (fun x => (h3 x).trans (h.mem x))
theorem Rel.okr (h : Rel m r) : ∀ q ∈ r, q.2.ok := fun q hq => by
  obtain ⟨k, hk⟩ := List.mem_iff_getElem?.1 hq
  have := mget_at h.nd' (k := q.1) (v := q.2) hk
  rw [← h.get] at this
  exact h.ok _ (mget_mem this)
theorem Rel.keyOk (h : Rel m r) : ∀ q ∈ m, intK.ok q.1 := fun q hq => okInt (by have := h.key q.1 (List.mem_map.2 ⟨q, hq, rfl⟩); omega)
theorem Rel.getr (h : Rel m r) {q : Int × Peer} (hq : q ∈ r) : mget m q.1 = some q.2 := by
  obtain ⟨k, hk⟩ := List.mem_iff_getElem?.1 hq
  rw [h.get]
  exact mget_at h.nd' hk
theorem mget_index {m : List (Int × Peer)} {id : Int} {p : Peer} (h : mget m id = some p) (hn : (keysOf m).Nodup) : ∃ k : Nat, m[k]? = some (id, p) ∧ placeI m id = k := by
  obtain ⟨k, hk⟩ := List.mem_iff_getElem?.1 (mget_mem h)
  refine ⟨k, hk, place_at m k p hk (fun j q hj hq he => ?_)⟩
  have h1 : (keysOf m)[j]? = some id := by simp [keysOf, hq, he]
  have h2 : (keysOf m)[k]? = some id := by simp [keysOf, hk]
  have := (List.getElem?_inj (by have := (List.getElem?_eq_some_iff.1 h1).1; exact this) hn).1 (h1.trans h2.symm)
  omega
theorem mget_noplace {m : List (Int × Peer)} {id : Int} (h : mget m id = none) : placeI m id = -1 := by
  refine place_no m (fun j q hq he => mget_none.1 h ?_)
  exact List.mem_map.2 ⟨q, List.mem_of_getElem? hq, he⟩
end
/-! ### the operations -/
def watchR (g : Int) (r : List (Int × Peer)) (id now : Int) : Int × List (Int × Peer) :=
  if id < 0 ∨ 255 < id ∨ timeOk now = false then (1, r) else match mget r id with
  | some _ => (0, r)
  | none => if r.length = 12 then (91, r) else (0, insR id ⟨now, 0, g, false⟩ r)
theorem Rel.watch {m r : List (Int × Peer)} (h : Rel m r) {g : Int} (hg : 1 ≤ g ∧ g ≤ 4096) (id now : Int) : (watch9 g m id now).1 = (watchR g r id now).1 ∧ Rel (watch9 g m id now).2 (watchR g r id now).2 := by
  unfold watch9 watchR
  by_cases h1 : id < 0 ∨ 255 < id ∨ timeOk now = false
  · rw [if_pos h1, if_pos h1]; exact ⟨rfl, h⟩
  · rw [if_neg h1, if_neg h1, ← h.get, h.len]
    cases hm : mget m id with
    | some p => exact ⟨rfl, h⟩
    | none =>
      simp only
      by_cases h2 : m.length = 12
      · rw [if_pos h2, if_pos h2]; exact ⟨rfl, h⟩
      · rw [if_neg h2, if_neg h2]
        have hr : mget r id = none := by rw [← h.get]; exact hm
        simp only [not_or, Bool.not_eq_false] at h1
        have ht : 0 ≤ now ∧ now ≤ 1099511627776 := by have := h1.2.2; simpa [timeOk] using this
        have hnk := mget_none.1 hm
        refine ⟨rfl, nodup_mset h.nd _ _, up_insR (mget_none.1 hr) h.up, fun j => ?_, fun q hq => ?_, fun j hj => ?_, ?_⟩
        · rw [mget_mset, mget_insR hr, h.get]
        · rcases mem_mset hq with rfl | hq
          · exact ⟨by simp only; omega, by simp, by simp only; omega⟩
          · exact h.ok q hq
        · rw [keys_mset, if_neg hnk] at hj
          rcases List.mem_append.1 hj with hj | hj
          · exact h.key j hj
          · simp only [List.mem_singleton] at hj; omega
        · rw [mset_len, if_neg hnk]; have := h.size; omega
theorem Rel.leave {m r : List (Int × Peer)} (h : Rel m r) (id : Int) : Rel (mdel m id) (mdel r id) := by
  refine ⟨nodup_mdel h.nd id, ?_, fun j => ?_, fun q hq => h.ok q ((keys_mdel_sub m id).subset hq), fun j hj => ?_, ?_⟩
  · exact List.Pairwise.sublist ((keys_mdel_sub r id).map _) h.up
  · rw [mget_mdel h.nd, mget_mdel h.nd', h.get]
  · exact h.key j (((keys_mdel_sub m id).map _).subset hj)
  · exact Nat.le_trans (keys_mdel_sub m id).length_le h.size
theorem Rel.beat {m r : List (Int × Peer)} (h : Rel m r) {id : Int} {p p' : Peer} (hp : mget m id = some p) (ho : p'.ok) : Rel (mset m id p') (mset r id p') := by
  have hk : id ∈ keysOf m := Classical.byContradiction (fun hn => by rw [mget_none.2 hn] at hp; exact absurd hp (by simp))
  have hk' := (h.mem id).1 hk
  refine ⟨nodup_mset h.nd _ _, ?_, fun j => ?_, fun q hq => ?_, fun j hj => ?_, ?_⟩
  · rw [keys_mset, if_pos hk']; exact h.up
  · rw [mget_mset, mget_mset, h.get]
  · rcases mem_mset hq with rfl | hq
    · exact ho
    · exact h.ok q hq
  · rw [keys_mset, if_pos hk] at hj; exact h.key j hj
  · rw [mset_len, if_pos hk]; exact h.size
def suspR (r : List (Int × Peer)) (now : Int) : List Int := (r.filter (fun q => timeOk now && badP q.2 now)).map (·.1)
theorem filter_map_keys {f : Int → Bool} {g : Int × Peer → Bool} : ∀ (r : List (Int × Peer)), (∀ q ∈ r, f q.1 = g q) → (keysOf r).filter f = (r.filter g).map (·.1)
  | [], _ => rfl
  | q :: r, h => by
    have ih := filter_map_keys r (fun x hx => h x (List.mem_cons_of_mem _ hx))
    simp only [keysOf] at ih
    have h0 := h q (List.mem_cons_self ..)
    cases hg : g q
    · simp [keysOf, List.filter_cons, h0, hg, ih]
    · simp [keysOf, List.filter_cons, h0, hg, ih]
theorem Rel.suspects {m r : List (Int × Peer)} (h : Rel m r) (now : Int) : suspects9 m now = suspR r now := by
  unfold suspects9 suspR
  rw [h.sorted]
  exact filter_map_keys r (fun q hq => by rw [h.getr hq]; rfl)
def chOne (now : Int) (q : Int × Peer) : Option (Int × Bool) := if badP q.2 now = q.2.told then none else some (q.1, badP q.2 now)
def tellOne (now : Int) (q : Int × Peer) : Int × Peer := (q.1, setTold now q.2)
def changesR (r : List (Int × Peer)) (now : Int) : List (Int × Peer) × List (Int × Bool) := if timeOk now = true then (r.map (tellOne now), r.filterMap (chOne now)) else (r, [])
theorem mget_tell {now : Int} : ∀ (r : List (Int × Peer)) (j : Int), mget (r.map (tellOne now)) j = (mget r j).map (setTold now)
  | [], _ => rfl
  | q :: r, j => by
    rw [List.map_cons, mget_cons, mget_cons, mget_tell r]
    simp only [tellOne]
    by_cases e : q.1 = j <;> simp [e]
theorem keys_tell {now : Int} (r : List (Int × Peer)) : keysOf (r.map (tellOne now)) = keysOf r := by simp [keysOf, tellOne, Function.comp_def]
theorem filterMap_keys {f : Int → Option (Int × Bool)} {g : Int × Peer → Option (Int × Bool)} : ∀ (r : List (Int × Peer)), (∀ q ∈ r, f q.1 = g q) → (keysOf r).filterMap f = r.filterMap g
  | [], _ => rfl
  | q :: r, h => by
    have ih := filterMap_keys r (fun x hx => h x (List.mem_cons_of_mem _ hx))
    simp only [keysOf] at ih ⊢
    rw [List.map_cons, List.filterMap_cons, List.filterMap_cons, h q (List.mem_cons_self ..), ih]
theorem ch_off {now : Int} (ht : timeOk now = false) : ∀ (L : List Int) (s : List (Int × Peer) × List (Int × Bool)), L.foldl (chStep now) s = s
  | [], _ => rfl
  | id :: L, s => by rw [List.foldl_cons, show chStep now s id = s by unfold chStep; rw [ht]; simp, ch_off ht L]
theorem Rel.changes {m r : List (Int × Peer)} (h : Rel m r) (now : Int) : (changes9 m now).2 = (changesR r now).2 ∧ Rel (changes9 m now).1 (changesR r now).1 := by
  unfold changes9 changesR
  cases ht : timeOk now
  · rw [ch_off ht]
    exact ⟨rfl, h⟩
  · rw [h.sorted]
    obtain ⟨h1, h2, h3⟩ := ch_fold ht (keysOf r) m [] h.nd' (fun id hid => by
      cases hg : mget m id with
      | none => exact absurd ((h.mem id).2 hid) (mget_none.1 hg)
      | some p => exact ⟨p, rfl, h.ok _ (mget_mem hg)⟩)
    have hget : ∀ j, mget ((keysOf r).foldl (chStep now) (m, [])).1 j = (mget m j).map (setTold now) := fun j => by
      rw [h2]
      split
      · rfl
      · rename_i hj
        rw [h.get, mget_none.2 hj]; rfl
    refine ⟨?_, ?_⟩
    · rw [h1, List.nil_append]
      refine filterMap_keys r (fun q hq => ?_)
      unfold chOf chOne
      rw [h.getr hq]
    · refine ⟨by rw [h3]; exact h.nd, by simp only [if_true]; rw [keys_tell]; exact h.up, fun j => ?_, fun q hq => ?_, fun id hid => ?_, ?_⟩
      · rw [hget]; simp only [if_true]; rw [mget_tell, h.get]
      · obtain ⟨k, hk⟩ := List.mem_iff_getElem?.1 hq
        have h4 := mget_at (by rw [h3]; exact h.nd) (k := q.1) (v := q.2) hk
        rw [hget] at h4
        cases hg : mget m q.1 with
        | none => rw [hg] at h4; exact absurd h4 (by simp)
        | some p =>
          rw [hg] at h4
          simp only [Option.map_some, Option.some.injEq] at h4
          rw [← h4]
          exact setTold_ok (h.ok _ (mget_mem hg))
      · rw [h3] at hid; exact h.key id hid
      · have : (keysOf ((keysOf r).foldl (chStep now) (m, [])).1).length = (keysOf m).length := by rw [h3]
        simp only [keysOf, List.length_map] at this
        simp only [keysOf]
        rw [this]; exact h.size
end Go.Proofs.Ytobiodbdnpcanaa
