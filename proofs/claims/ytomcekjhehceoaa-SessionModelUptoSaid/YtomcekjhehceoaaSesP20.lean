/- PLAIN: entries in order: where a key stands, what is put, what is taken away. No program in sight. -/
import Derived.Test.YtomcekjhehceoaaPlain1
set_option linter.unusedVariables false
set_option linter.unusedSimpArgs false
namespace Go.Tk
theorem bl_irrefl : ∀ a : List UInt8, Op.bytesLess a a = false
  | [] => rfl
  | a :: x => by simp [Op.bytesLess, bl_irrefl x]
theorem bl_trans : ∀ a b c : List UInt8, Op.bytesLess a b = true → Op.bytesLess b c = true → Op.bytesLess a c = true
  | a, [], c, h, _ => by cases a <;> simp [Op.bytesLess] at h
  | a, b :: y, [], _, h => by simp [Op.bytesLess] at h
  | [], b :: y, c :: z, _, _ => by simp [Op.bytesLess]
  | a :: x, b :: y, c :: z, h1, h2 => by
    simp only [Op.bytesLess, Bool.or_eq_true, Bool.and_eq_true, decide_eq_true_eq, beq_iff_eq] at h1 h2 ⊢
    rcases h1 with h1 | ⟨rfl, h1⟩
    · rcases h2 with h2 | ⟨rfl, h2⟩
      · exact .inl (UInt8.lt_trans h1 h2)
      · exact .inl h1
    · rcases h2 with h2 | ⟨rfl, h2⟩
      · exact .inl h2
      · exact .inr ⟨rfl, bl_trans x y z h1 h2⟩
theorem bl_tri : ∀ a b : List UInt8, Op.bytesLess a b = false → Op.bytesLess b a = false → a = b
  | [], [], _, _ => rfl
  | [], b :: y, h, _ => by simp [Op.bytesLess] at h
  | a :: x, [], _, h => by simp [Op.bytesLess] at h
  | a :: x, b :: y, h1, h2 => by
    simp only [Op.bytesLess, Bool.or_eq_false_iff, Bool.and_eq_false_iff, decide_eq_false_iff_not, beq_eq_false_iff_ne] at h1 h2
    obtain ⟨h1, h3⟩ := h1
    obtain ⟨h2, h4⟩ := h2
    have e : a = b := by
      apply UInt8.toNat_inj.1
      have a1 : ¬ a.toNat < b.toNat := fun h => h1 (UInt8.lt_iff_toNat_lt.2 h)
      have a2 : ¬ b.toNat < a.toNat := fun h => h2 (UInt8.lt_iff_toNat_lt.2 h)
      omega
    subst e
    rw [bl_tri x y (h3.resolve_left (by simp)) (h4.resolve_left (by simp))]
theorem ba_ext {a b : ByteArray} (h : a.toList = b.toList) : a = b := by
  rw [ByteArray.toList_eq, ByteArray.toList_eq] at h
  cases a; cases b
  simp only [ByteArray.mk.injEq] at h ⊢
  exact Array.toList_inj.1 h
def ltK (a b : ByteArray) : Bool := Op.bytesLess a.toList b.toList
theorem ltK_irrefl (a : ByteArray) : ltK a a = false := bl_irrefl _
theorem ltK_trans {a b c : ByteArray} (h1 : ltK a b = true) (h2 : ltK b c = true) : ltK a c = true := bl_trans _ _ _ h1 h2
theorem ltK_tri {a b : ByteArray} (h1 : ltK a b = false) (h2 : ltK b a = false) : a = b := ba_ext (bl_tri _ _ h1 h2)
theorem ltK_asym {a b : ByteArray} (h : ltK a b = true) : ltK b a = false := by
  cases h2 : ltK b a with
  | false => rfl
  | true => have := ltK_trans h h2; rw [ltK_irrefl] at this; simp at this
/-- not less, and less: a ≤ b < c -/
theorem ltK_le {a b c : ByteArray} (h1 : ltK b a = false) (h2 : ltK b c = true) : ltK a c = true := by
  cases h : ltK a b with
  | true => exact ltK_trans h h2
  | false => rw [ltK_tri h h1]; exact h2
theorem ltK_ne {a b : ByteArray} (h : ltK a b = true) : a ≠ b := fun e => by subst e; rw [ltK_irrefl] at h; simp at h

abbrev En := ByteArray × ByteArray
/-- keys rise -/
def Rising (l : List En) : Prop := l.Pairwise (fun a b => ltK a.1 b.1 = true)
/-- how many keys lie ahead of a key -/
def lbK (k : ByteArray) : List En → Nat
  | [] => 0
  | e :: l => if ltK e.1 k = true then lbK k l + 1 else 0
theorem lbK_le (k : ByteArray) : ∀ l, lbK k l ≤ l.length
  | [] => Nat.le_refl _
  | e :: l => by
    unfold lbK
    split
    · have := lbK_le k l; simp; omega
    · simp
theorem lbK_lo (k : ByteArray) : ∀ (l : List En) (i : Nat) (e : En), l[i]? = some e → i < lbK k l → ltK e.1 k = true
  | [], i, e, h, _ => by simp at h
  | x :: l, i, e, h, hi => by
    unfold lbK at hi
    split at hi
    · rename_i hx
      cases i with
      | zero => simp at h; subst h; exact hx
      | succ i => exact lbK_lo k l i e (by simpa using h) (by omega)
    · omega
theorem Rising.tail {e : En} {l : List En} (h : Rising (e :: l)) : Rising l := (List.pairwise_cons.1 h).2
theorem Rising.head {e : En} {l : List En} (h : Rising (e :: l)) {x : En} (hx : x ∈ l) : ltK e.1 x.1 = true := (List.pairwise_cons.1 h).1 x hx
theorem lbK_hi (k : ByteArray) : ∀ (l : List En), Rising l → ∀ (i : Nat) (e : En), l[i]? = some e → lbK k l ≤ i → ltK e.1 k = false
  | [], _, i, e, h, _ => by simp at h
  | x :: l, hr, i, e, h, hi => by
    unfold lbK at hi
    split at hi
    · cases i with
      | zero => omega
      | succ i => exact lbK_hi k l hr.tail i e (by simpa using h) (by omega)
    · rename_i hx
      simp only [Bool.not_eq_true] at hx
      cases i with
      | zero => simp at h; subst h; exact hx
      | succ i =>
        have hm := List.mem_of_getElem? (l := l) (i := i) (a := e) (by simpa using h)
        have h1 := hr.head hm
        cases h2 : ltK e.1 k with
        | false => rfl
        | true => rw [ltK_trans h1 h2] at hx; simp at hx
/-- a place behind which all stand not ahead of the key, ahead of which all do: it is that one -/
theorem lbK_eq (k : ByteArray) (l : List En) {i : Nat} (hi : i ≤ l.length) (h1 : ∀ j e, j < i → l[j]? = some e → ltK e.1 k = true) (h2 : ∀ j e, i ≤ j → l[j]? = some e → ltK e.1 k = false) : lbK k l = i := by
  induction l generalizing i with
  | nil => simp at hi; simp [lbK, hi]
  | cons x l ih =>
    unfold lbK
    cases i with
    | zero => rw [if_neg (by rw [h2 0 x (Nat.le_refl _) rfl]; simp)]
    | succ i =>
      rw [if_pos (h1 0 x (by omega) rfl), ih (by simpa using hi) (fun j e hj he => h1 (j + 1) e (by omega) (by simpa using he)) (fun j e hj he => h2 (j + 1) e (by omega) (by simpa using he))]
def isK (k : ByteArray) (l : List En) : Bool := decide ((l[lbK k l]?).map (·.1) = some k)
def getK (k : ByteArray) (l : List En) : ByteArray := ((l[lbK k l]?).map (·.2)).getD .empty
def putK (k v : ByteArray) (l : List En) : List En := if isK k l = true then l.set (lbK k l) (k, v) else l.take (lbK k l) ++ (k, v) :: l.drop (lbK k l)
def delK (k : ByteArray) (l : List En) : List En := if isK k l = true then l.eraseIdx (lbK k l) else l
theorem isK_at {k : ByteArray} {l : List En} (h : isK k l = true) : ∃ v, l[lbK k l]? = some (k, v) ∧ getK k l = v := by
  unfold isK at h
  simp only [decide_eq_true_eq] at h
  unfold getK
  cases hx : l[lbK k l]? with
  | none => rw [hx] at h; simp at h
  | some e =>
    rw [hx] at h
    simp only [Option.map_some, Option.some.injEq] at h
    obtain ⟨a, b⟩ := e
    simp only at h
    subst h
    exact ⟨b, rfl, rfl⟩
/-- what a key has -/
def look (k : ByteArray) (l : List En) : Option ByteArray := (l.find? (fun e => decide (e.1 = k))).map (·.2)
theorem look_none {k : ByteArray} : ∀ {l : List En}, (∀ e ∈ l, e.1 ≠ k) → look k l = none
  | [], _ => rfl
  | x :: l, h => by
    unfold look
    rw [List.find?_cons_of_neg (by simp [h x (by simp)])]
    exact look_none (fun e he => h e (by simp [he]))
theorem look_cons (k : ByteArray) (x : En) (l : List En) : look k (x :: l) = if x.1 = k then some x.2 else look k l := by
  unfold look
  by_cases h : x.1 = k <;> simp [h]
theorem look_append (k : ByteArray) : ∀ (l r : List En), look k (l ++ r) = (look k l).or (look k r)
  | [], r => by simp [look]
  | x :: l, r => by
    rw [List.cons_append, look_cons, look_cons, look_append k l r]
    split <;> simp
theorem look_lo {k : ByteArray} {l : List En} (h : ∀ e ∈ l, ltK e.1 k = true) : look k l = none := look_none (fun e he hk => by have := h e he; rw [hk, ltK_irrefl] at this; simp at this)
theorem look_hi {k : ByteArray} {l : List En} (h : ∀ e ∈ l, ltK k e.1 = true) : look k l = none := look_none (fun e he hk => by have := h e he; rw [hk, ltK_irrefl] at this; simp at this)
theorem look_rising {k : ByteArray} : ∀ {l : List En}, Rising l → look k l = if isK k l = true then some (getK k l) else none
  | [], _ => by simp [look, isK, lbK]
  | x :: l, hr => by
    rw [look_cons, look_rising hr.tail]
    have hc : lbK k (x :: l) = if ltK x.1 k = true then lbK k l + 1 else 0 := rfl
    unfold isK getK
    by_cases hx : ltK x.1 k = true
    · rw [if_pos hx] at hc
      rw [if_neg (ltK_ne hx), hc]
      simp
    · rw [hc]
      simp only [hx, if_false, Bool.false_eq_true]
      by_cases e : x.1 = k
      · subst e; simp
      · rw [if_neg e, if_neg]
        · simp [e]
        · intro h
          simp only [decide_eq_true_eq] at h
          obtain ⟨a, ha, hk⟩ := Option.map_eq_some_iff.1 h
          have hm := List.mem_of_getElem? ha
          have h1 := hr.head hm
          rw [hk] at h1
          exact hx h1
theorem getElem?_split {α : Type} {l : List α} {i : Nat} {a : α} (h : l[i]? = some a) : l = l.take i ++ a :: l.drop (i + 1) := by
  obtain ⟨hi, rfl⟩ := List.getElem?_eq_some_iff.1 h
  rw [List.getElem_cons_drop, List.take_append_drop]
theorem take_lo {k : ByteArray} {l : List En} {e : En} (h : e ∈ l.take (lbK k l)) : ltK e.1 k = true := by
  obtain ⟨i, hi⟩ := List.mem_iff_getElem?.1 h
  rw [List.getElem?_take] at hi
  split at hi
  · exact lbK_lo k l i e hi ‹_›
  · simp at hi
theorem drop_hi {k : ByteArray} {l : List En} (hr : Rising l) (hn : isK k l = false) {e : En} (h : e ∈ l.drop (lbK k l)) : ltK k e.1 = true := by
  obtain ⟨i, hi⟩ := List.mem_iff_getElem?.1 h
  rw [List.getElem?_drop] at hi
  have h1 := lbK_hi k l hr _ e hi (by omega)
  cases h2 : ltK k e.1 with
  | true => rfl
  | false =>
    have hk : e.1 = k := ltK_tri h1 h2
    -- then e stands at the place itself
    obtain ⟨e0, he0⟩ : ∃ e0, l[lbK k l]? = some e0 := by
      have := (List.getElem?_eq_some_iff.1 hi).1
      exact ⟨_, List.getElem?_eq_getElem (by omega)⟩
    have h3 := lbK_hi k l hr _ e0 he0 (Nat.le_refl _)
    cases i with
    | zero =>
      rw [Nat.add_zero] at hi
      unfold isK at hn
      rw [hi] at hn
      simp [hk] at hn
    | succ i =>
      have hp := (List.pairwise_iff_getElem.1 hr) (lbK k l) (lbK k l + (i + 1)) (List.getElem?_eq_some_iff.1 he0).1 (List.getElem?_eq_some_iff.1 hi).1 (by omega)
      rw [(List.getElem?_eq_some_iff.1 he0).2, (List.getElem?_eq_some_iff.1 hi).2, hk] at hp
      rw [hp] at h3
      simp at h3
theorem drop1_hi {k : ByteArray} {l : List En} (hr : Rising l) (hy : isK k l = true) {e : En} (h : e ∈ l.drop (lbK k l + 1)) : ltK k e.1 = true := by
  obtain ⟨v, hv, _⟩ := isK_at hy
  rw [getElem?_split hv] at hr
  have := (List.pairwise_append.1 hr).2.1
  exact (List.pairwise_cons.1 this).1 e h
theorem putK_split {k v : ByteArray} {l : List En} : putK k v l = l.take (lbK k l) ++ (k, v) :: (if isK k l = true then l.drop (lbK k l + 1) else l.drop (lbK k l)) := by
  unfold putK
  cases h : isK k l with
  | false => simp
  | true =>
    obtain ⟨v0, hv, _⟩ := isK_at h
    have hlt := (List.getElem?_eq_some_iff.1 hv).1
    simp only [if_true]
    rw [List.set_eq_take_append_cons_drop, if_pos hlt]
theorem rest_hi {k : ByteArray} {l : List En} (hr : Rising l) {e : En} (h : e ∈ (if isK k l = true then l.drop (lbK k l + 1) else l.drop (lbK k l))) : ltK k e.1 = true := by
  cases hk : isK k l with
  | true => rw [hk] at h; exact drop1_hi hr hk h
  | false => rw [hk] at h; exact drop_hi hr hk h
theorem Rising.putK {k v : ByteArray} {l : List En} (hr : Rising l) : Rising (putK k v l) := by
  rw [putK_split]
  unfold Rising at *
  rw [List.pairwise_append]
  refine ⟨hr.sublist (List.take_sublist _ _), ?_, ?_⟩
  · rw [List.pairwise_cons]
    refine ⟨fun e he => rest_hi hr he, ?_⟩
    split
    · exact hr.sublist (List.drop_sublist _ _)
    · exact hr.sublist (List.drop_sublist _ _)
  · intro a ha b hb
    have h1 := take_lo ha
    rcases List.mem_cons.1 hb with rfl | hb
    · exact h1
    · exact ltK_trans h1 (rest_hi hr hb)
theorem delK_split {k : ByteArray} {l : List En} (h : isK k l = true) : delK k l = l.take (lbK k l) ++ l.drop (lbK k l + 1) := by
  unfold delK
  rw [if_pos h, List.eraseIdx_eq_take_drop_succ]
theorem Rising.delK {k : ByteArray} {l : List En} (hr : Rising l) : Rising (delK k l) := by
  unfold Go.Tk.delK
  split
  · exact hr.sublist (List.eraseIdx_sublist _ _)
  · exact hr
theorem split_rising {k : ByteArray} {l : List En} (hr : Rising l) : ∃ M, l = l.take (lbK k l) ++ M ++ (if isK k l = true then l.drop (lbK k l + 1) else l.drop (lbK k l)) ∧ ∀ e ∈ M, e.1 = k := by
  cases h : isK k l with
  | false => exact ⟨[], by simp, by simp⟩
  | true =>
    obtain ⟨v0, hv, _⟩ := isK_at h
    refine ⟨[(k, v0)], ?_, by simp⟩
    simp only [if_true]
    rw (occs := .pos [1]) [getElem?_split hv]
    simp
theorem look_putK {k v j : ByteArray} {l : List En} (hr : Rising l) : look j (putK k v l) = if k = j then some v else look j l := by
  obtain ⟨M, hM, hk⟩ := split_rising (k := k) hr
  rw [putK_split, look_append, look_cons]
  by_cases e : k = j
  · subst e
    rw [look_lo (fun e he => take_lo he)]
    simp
  · rw [if_neg e, if_neg e]
    have h2 := congrArg (look j) hM
    rw [look_append, look_append, look_none (l := M) (fun x hx => by rw [hk x hx]; exact e)] at h2
    rw [h2]
    cases look j (l.take (lbK k l)) <;> rfl
theorem look_delK {k j : ByteArray} {l : List En} (hr : Rising l) : look j (delK k l) = if k = j then none else look j l := by
  cases h : isK k l with
  | false =>
    unfold delK
    rw [h, if_neg (by simp)]
    by_cases e : k = j
    · subst e
      rw [look_rising hr, h]; simp
    · rw [if_neg e]
  | true =>
    obtain ⟨M, hM, hk⟩ := split_rising (k := k) hr
    rw [h] at hM
    simp only [if_true] at hM
    rw [delK_split h, look_append]
    by_cases e : k = j
    · subst e
      rw [look_lo (fun e he => take_lo he), look_hi (fun e he => drop1_hi hr h he)]
      simp
    · rw [if_neg e]
      have h2 := congrArg (look j) hM
      rw [look_append, look_append, look_none (l := M) (fun x hx => by rw [hk x hx]; exact e)] at h2
      rw [h2]
      cases look j (l.take (lbK k l)) <;> rfl
theorem mem_putK {k v : ByteArray} {l : List En} {e : En} (h : e ∈ putK k v l) : e = (k, v) ∨ e ∈ l := by
  rw [putK_split, List.mem_append, List.mem_cons] at h
  rcases h with h | h | h
  · exact .inr (List.mem_of_mem_take h)
  · exact .inl h
  · refine .inr ?_
    split at h <;> exact List.mem_of_mem_drop h
theorem mem_delK {k : ByteArray} {l : List En} {e : En} (h : e ∈ delK k l) : e ∈ l := by
  unfold delK at h
  split at h
  · exact List.mem_of_mem_eraseIdx h
  · exact h
theorem len_putK {k v : ByteArray} {l : List En} : (putK k v l).length = if isK k l = true then l.length else l.length + 1 := by
  unfold putK
  have := lbK_le k l
  split
  · simp
  · simp; omega
theorem len_delK {k : ByteArray} {l : List En} : (delK k l).length ≤ l.length := by
  unfold delK
  split
  · exact List.length_eraseIdx_le _ _
  · exact Nat.le_refl _
/-! ### one list out of several, behind each other -/
theorem lbK_append {k : ByteArray} : ∀ {a b : List En}, (∀ e ∈ a, ltK e.1 k = true) → lbK k (a ++ b) = a.length + lbK k b
  | [], b, _ => by simp
  | x :: a, b, h => by
    rw [List.cons_append, lbK, if_pos (h x (by simp)), lbK_append (fun e he => h e (by simp [he]))]
    simp; omega
theorem lbK_front {k : ByteArray} : ∀ {a b : List En}, (∀ e ∈ b, ltK k e.1 = true) → lbK k (a ++ b) = lbK k a
  | [], [], _ => rfl
  | [], y :: b, h => by
    simp only [List.nil_append, lbK]
    rw [if_neg (by rw [ltK_asym (h y (by simp))]; simp)]
  | x :: a, b, h => by
    rw [List.cons_append, lbK, lbK, lbK_front h]
theorem putK_mid {k v : ByteArray} {a m b : List En} (ha : ∀ e ∈ a, ltK e.1 k = true) (hb : ∀ e ∈ b, ltK k e.1 = true) : putK k v (a ++ m ++ b) = a ++ putK k v m ++ b := by
  have e1 : lbK k (a ++ m ++ b) = a.length + lbK k m := by rw [lbK_front hb, lbK_append ha]
  have hle := lbK_le k m
  have e2 : isK k (a ++ m ++ b) = isK k m := by
    unfold isK
    rw [e1, List.append_assoc, List.getElem?_append_right (by omega), show a.length + lbK k m - a.length = lbK k m by omega]
    rcases Nat.lt_or_ge (lbK k m) m.length with h | h
    · rw [List.getElem?_append_left h]
    · have hm : m[lbK k m]? = none := List.getElem?_eq_none h
      rw [hm, List.getElem?_append_right h]
      cases hx : b[lbK k m - m.length]? with
      | none => rfl
      | some e =>
        have := hb e (List.mem_of_getElem? hx)
        simp only [Option.map_some, Option.map_none, Option.some.injEq]
        rw [decide_eq_false (fun h => ltK_ne this h.symm)]
        rfl
  rw [putK_split, putK_split, e1, e2]
  have e3 : (a ++ m ++ b).take (a.length + lbK k m) = a ++ m.take (lbK k m) := by
    rw [List.append_assoc, List.take_length_add_append, List.take_append_of_le_length hle]
  have e4 : (a ++ m ++ b).drop (a.length + lbK k m) = m.drop (lbK k m) ++ b := by
    rw [List.append_assoc, List.drop_length_add_append, List.drop_append_of_le_length hle]
  rw [e3, e4]
  cases h : isK k m with
  | false => simp
  | true =>
    obtain ⟨w, hw, _⟩ := isK_at h
    have hlt := (List.getElem?_eq_some_iff.1 hw).1
    have e5 : (a ++ m ++ b).drop (a.length + lbK k m + 1) = m.drop (lbK k m + 1) ++ b := by
      rw [List.append_assoc, Nat.add_assoc, List.drop_length_add_append, List.drop_append_of_le_length hlt]
    simp only [if_true, e5]
    simp
theorem delK_mid {k : ByteArray} {a m b : List En} (ha : ∀ e ∈ a, ltK e.1 k = true) (hb : ∀ e ∈ b, ltK k e.1 = true) : delK k (a ++ m ++ b) = a ++ delK k m ++ b ∧ isK k (a ++ m ++ b) = isK k m ∧ getK k (a ++ m ++ b) = (if isK k m = true then getK k m else getK k (a ++ m ++ b)) := by
  have e1 : lbK k (a ++ m ++ b) = a.length + lbK k m := by rw [lbK_front hb, lbK_append ha]
  have hle := lbK_le k m
  have e2 : isK k (a ++ m ++ b) = isK k m := by
    unfold isK
    rw [e1, List.append_assoc, List.getElem?_append_right (by omega), show a.length + lbK k m - a.length = lbK k m by omega]
    rcases Nat.lt_or_ge (lbK k m) m.length with h | h
    · rw [List.getElem?_append_left h]
    · have hm : m[lbK k m]? = none := List.getElem?_eq_none h
      rw [hm, List.getElem?_append_right h]
      cases hx : b[lbK k m - m.length]? with
      | none => rfl
      | some e =>
        have := hb e (List.mem_of_getElem? hx)
        simp only [Option.map_some, Option.map_none, Option.some.injEq]
        rw [decide_eq_false (fun h => ltK_ne this h.symm)]
        rfl
  refine ⟨?_, e2, ?_⟩
  · cases h : isK k m with
    | false => unfold delK; rw [e2, h]; simp
    | true =>
      obtain ⟨w, hw, _⟩ := isK_at h
      have hlt := (List.getElem?_eq_some_iff.1 hw).1
      rw [delK_split (by rw [e2, h]), delK_split h, e1]
      rw [List.append_assoc, List.take_length_add_append, List.take_append_of_le_length hle, Nat.add_assoc, List.drop_length_add_append, List.drop_append_of_le_length hlt]
      simp
  · cases h : isK k m with
    | false => simp
    | true =>
      obtain ⟨w, hw, hg⟩ := isK_at h
      have hlt := (List.getElem?_eq_some_iff.1 hw).1
      simp only [if_true]
      unfold getK
      rw [e1, List.append_assoc, List.getElem?_append_right (by omega), show a.length + lbK k m - a.length = lbK k m by omega, List.getElem?_append_left hlt]
end Go.Tk
