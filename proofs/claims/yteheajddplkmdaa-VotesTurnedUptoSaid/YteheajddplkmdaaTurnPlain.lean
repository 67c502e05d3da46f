/- PLAIN LAW: votes, and the incarnations with them, that are turned by r come to the same. No program in sight. -/
import Derived.Test.YteheajddplkmdaaSurePlain
set_option linter.unusedVariables false
set_option linter.unusedSimpArgs false
namespace Go.Proofs.Yteheajddplkmdaa
open Go.Tk

/-- g is f turned by r -/
def Turned (r : Nat) (f g : Nat → Int) : Prop := ∀ k, k < 4 → g ((k + r) % 4) = f k
theorem Turned.four {r : Nat} {f g : Nat → Int} (h : Turned r f g) : g (r % 4) = f 0 ∧ g ((1 + r) % 4) = f 1 ∧ g ((2 + r) % 4) = f 2 ∧ g ((3 + r) % 4) = f 3 :=
  ⟨by simpa using h 0 (by omega), h 1 (by omega), h 2 (by omega), h 3 (by omega)⟩
theorem Turned.cn {r : Nat} (hr : r < 4) {f g i j : Nat → Int} (v : Int) (h : Turned r f g) (h' : Turned r i j) : cn g j v 4 = cn f i v 4 := by
  obtain ⟨a0, a1, a2, a3⟩ := h.four
  obtain ⟨b0, b1, b2, b3⟩ := h'.four
  have hcase : r = 0 ∨ r = 1 ∨ r = 2 ∨ r = 3 := by omega
  rcases hcase with rfl | rfl | rfl | rfl
  all_goals
    simp only [Nat.reduceMod, Nat.reduceAdd] at a0 a1 a2 a3 b0 b1 b2 b3
    simp only [Go.Proofs.Yteheajddplkmdaa.cn, a0, a1, a2, a3, b0, b1, b2, b3]
    try omega
theorem Turned.zeros {r : Nat} (hr : r < 4) {f g : Nat → Int} (h : Turned r f g) : zeros g 4 = zeros f 4 := by
  obtain ⟨a0, a1, a2, a3⟩ := h.four
  have hcase : r = 0 ∨ r = 1 ∨ r = 2 ∨ r = 3 := by omega
  rcases hcase with rfl | rfl | rfl | rfl
  all_goals
    simp only [Nat.reduceMod, Nat.reduceAdd] at a0 a1 a2 a3
    simp only [Go.Proofs.Yteheajddplkmdaa.zeros, a0, a1, a2, a3]
    try omega
theorem Turned.rowOk {r : Nat} (hr : r < 4) {f g : Nat → Int} (h : Turned r f g) : rowOk g = rowOk f := by
  have e : ∀ f : Nat → Int, Go.Proofs.Yteheajddplkmdaa.rowOk f = true ↔ (0 ≤ f 0 ∧ f 0 ≤ 2) ∧ (0 ≤ f 1 ∧ f 1 ≤ 2) ∧ (0 ≤ f 2 ∧ f 2 ≤ 2) ∧ (0 ≤ f 3 ∧ f 3 ≤ 2) := by
    intro f
    unfold Go.Proofs.Yteheajddplkmdaa.rowOk
    simp only [List.all_eq_true, List.mem_range, decide_eq_true_eq]
    refine ⟨fun h => ⟨h 0 (by omega), h 1 (by omega), h 2 (by omega), h 3 (by omega)⟩, fun ⟨h0, h1, h2, h3⟩ k hk => ?_⟩
    have hcase : k = 0 ∨ k = 1 ∨ k = 2 ∨ k = 3 := by omega
    rcases hcase with rfl | rfl | rfl | rfl <;> assumption
  rw [Bool.eq_iff_iff, e, e]
  obtain ⟨a0, a1, a2, a3⟩ := h.four
  have hcase : r = 0 ∨ r = 1 ∨ r = 2 ∨ r = 3 := by omega
  rcases hcase with rfl | rfl | rfl | rfl
  all_goals
    simp only [Nat.reduceMod, Nat.reduceAdd] at a0 a1 a2 a3
    rw [a0, a1, a2, a3]
    try omega
theorem decide_turned {r : Nat} (hr : r < 4) {rt : Bool} {n m : Nat} {f g i j : Nat → Nat → Int} (h : ∀ k, k < n → Turned r (f k) (g k)) (h' : ∀ k, k < m → Turned r (i k) (j k)) :
    decide18 rt n m g j = decide18 rt n m f i := by
  unfold decide18
  by_cases hc : rt = true ∧ n = m
  · rw [if_pos hc, if_pos hc]
    obtain ⟨_, rfl⟩ := hc
    have e1 : rowsOk g n = rowsOk f n := by
      unfold rowsOk
      rw [Bool.eq_iff_iff, List.all_eq_true, List.all_eq_true]
      exact ⟨fun hh k hk => by rw [← (h k (List.mem_range.1 hk)).rowOk hr]; exact hh k hk, fun hh k hk => by rw [(h k (List.mem_range.1 hk)).rowOk hr]; exact hh k hk⟩
    have e2 : prep g j n = prep f i n := by
      rw [Bool.eq_iff_iff, prep_iff, prep_iff]
      exact ⟨fun hh k hk => by rw [← (h k hk).cn hr 1 (h' k hk)]; exact hh k hk, fun hh k hk => by rw [(h k hk).cn hr 1 (h' k hk)]; exact hh k hk⟩
    have e3 : sunk g j n = sunk f i n := by
      rw [Bool.eq_iff_iff, sunk_iff, sunk_iff]
      constructor
      · rintro ⟨k, hk, hh⟩
        exact ⟨k, hk, by rwa [(h k hk).cn hr 1 (h' k hk), (h k hk).cn hr 0 (h' k hk)] at hh⟩
      · rintro ⟨k, hk, hh⟩
        exact ⟨k, hk, by rwa [(h k hk).cn hr 1 (h' k hk), (h k hk).cn hr 0 (h' k hk)]⟩
    rw [e1, e2, e3]
  · rw [if_neg hc, if_neg hc]
/-- items that differ in where their entries lie, and in that their incarnations are turned -/
def TurnedItems (r : Nat) (l l' : List ItemR) : Prop :=
  l'.length = l.length ∧ ∀ (j : Nat) (x x' : ItemR), l[j]? = some x → l'[j]? = some x' → x'.bucket = x.bucket ∧ x'.ver = x.ver ∧ x'.write = x.write ∧ x'.ents = x.ents ∧ Turned r x.inc x'.inc
theorem item_turned {r : Nat} (hr : r < 4) {x x' : ItemR} (h : x'.bucket = x.bucket ∧ x'.ver = x.ver ∧ x'.write = x.write ∧ x'.ents = x.ents ∧ Turned r x.inc x'.inc) : x'.right = x.right := by
  obtain ⟨h1, h2, h3, h4, h5⟩ := h
  unfold ItemR.right
  rw [h1, h2, h3, h4, h5.zeros hr]
theorem TurnedItems.at_ {r : Nat} {l l' : List ItemR} (h : TurnedItems r l l') (j : Nat) : (l[j]? = none ∧ l'[j]? = none) ∨ ∃ x x', l[j]? = some x ∧ l'[j]? = some x' ∧ x'.bucket = x.bucket ∧ x'.ver = x.ver ∧ x'.write = x.write ∧ x'.ents = x.ents ∧ Turned r x.inc x'.inc := by
  by_cases hj : j < l.length
  · have h1 : l[j]? = some l[j] := List.getElem?_eq_getElem hj
    have h2 : l'[j]? = some (l'[j]'(by rw [h.1]; exact hj)) := List.getElem?_eq_getElem _
    exact .inr ⟨_, _, h1, h2, h.2 j _ _ h1 h2⟩
  · exact .inl ⟨List.getElem?_eq_none (by omega), List.getElem?_eq_none (by have := h.1; omega)⟩
theorem itemOkAt_turned {r : Nat} (hr : r < 4) {l l' : List ItemR} (h : TurnedItems r l l') (k : Nat) : itemOkAt l' k = itemOkAt l k := by
  unfold itemOkAt
  rcases h.at_ k with ⟨h1, h2⟩ | ⟨x, x', h1, h2, hx⟩
  · rw [h1, h2]
  · rw [h1, h2]
    simp only
    rw [item_turned hr hx]
    cases k with
    | zero => rfl
    | succ j =>
      rcases h.at_ j with ⟨h3, h4⟩ | ⟨p, p', h3, h4, hp⟩
      · simp only [h3, h4]
      · simp only [h3, h4, hx.1, hp.1]
theorem itemsOk_turned {r : Nat} (hr : r < 4) {l l' : List ItemR} (h : TurnedItems r l l') : itemsOk l' = itemsOk l := by
  unfold itemsOk
  rw [h.1, show itemOkAt l' = itemOkAt l from funext (itemOkAt_turned hr h)]
theorem right_turned {r : Nat} (hr : r < 4) {id client m0 m1 m2 : Int} {d d' : Value} {l l' : List ItemR} (h : TurnedItems r l l') : TxR.right ⟨id, client, m0, m1, m2, d', l'⟩ = TxR.right ⟨id, client, m0, m1, m2, d, l⟩ := by
  unfold TxR.right
  simp only [h.1, itemsOk_turned hr h]
theorem incsOf_turned {r : Nat} {l l' : List ItemR} (h : TurnedItems r l l') (k : Nat) (hk : k < l.length) : Turned r (incsOf l k) (incsOf l' k) := by
  unfold incsOf
  rcases h.at_ k with ⟨h1, h2⟩ | ⟨x, x', h1, h2, hx⟩
  · exact absurd h1 (by rw [List.getElem?_eq_getElem hk]; simp)
  · simp only [h1, h2]
    exact hx.2.2.2.2
/-- the whole: the votes and the incarnations turned by r -/
theorem turned_same {r : Nat} (hr : r < 4) {id client m0 m1 m2 : Int} {d d' : Value} {l l' : List ItemR} {n : Nat} {f g : Nat → Nat → Int} (h : TurnedItems r l l') (hf : ∀ k, k < n → Turned r (f k) (g k)) :
    decide18 (TxR.right ⟨id, client, m0, m1, m2, d', l'⟩) n l'.length g (incsOf l') = decide18 (TxR.right ⟨id, client, m0, m1, m2, d, l⟩) n l.length f (incsOf l) := by
  rw [right_turned (d := d) hr h, h.1]
  exact decide_turned hr hf (incsOf_turned h)
end Go.Proofs.Yteheajddplkmdaa
