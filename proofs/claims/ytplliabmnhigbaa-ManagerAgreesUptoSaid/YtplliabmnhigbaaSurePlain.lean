/- PLAIN LAW: what is decided stays: a vote that was none becomes another; what the votes come to then. No program in sight. -/
import Derived.Test.YtplliabmnhigbaaDecide
set_option linter.unusedVariables false
set_option linter.unusedSimpArgs false
namespace Go.Proofs.Ytplliabmnhigbaa
open Go.Tk

/-- the votes with one of them set -/
def setV (f : Nat → Nat → Int) (i k : Nat) (v : Int) : Nat → Nat → Int := fun i' k' => if i' = i ∧ k' = k then v else f i' k'
theorem cn_congr {f g inc : Nat → Int} {v : Int} : ∀ n, (∀ k, k < n → f k = g k) → cn f inc v n = cn g inc v n
  | 0, _ => rfl
  | n + 1, h => by simp only [cn]; rw [cn_congr n (fun k hk => h k (by omega)), h n (by omega)]
/-- none becomes v at place k -/
theorem cn_set {f inc : Nat → Int} {v : Int} {k : Nat} (hf : f k = 0) (u : Int) : ∀ n, (cn f inc 1 n ≤ cn (fun j => if j = k then v else f j) inc 1 n) ∧
    (cn (fun j => if j = k then v else f j) inc 1 n + cn (fun j => if j = k then v else f j) inc 0 n ≤ cn f inc 1 n + cn f inc 0 n)
  | 0 => by simp [cn]
  | n + 1 => by
    obtain ⟨h1, h2⟩ := cn_set hf u n
    simp only [cn]
    by_cases hn : n = k
    · subst hn
      by_cases hi : inc n = 0
      · simp only [hi, ne_eq, not_true_eq_false, and_false, if_false, Nat.add_zero]; exact ⟨h1, h2⟩
      · by_cases v1 : v = 1
        · subst v1; simp [hf, hi]; omega
        · by_cases v0 : v = 0
          · subst v0; simp [hf, hi]; omega
          · simp [hf, hi, v1, v0]; omega
    · simp only [hn, if_false]
      constructor <;> omega
theorem rowsOk_iff {f : Nat → Nat → Int} {n : Nat} : rowsOk f n = true ↔ ∀ i k, i < n → k < 4 → 0 ≤ f i k ∧ f i k ≤ 2 := by
  unfold rowsOk rowOk
  simp only [List.all_eq_true, List.mem_range, decide_eq_true_eq]
  exact ⟨fun h i k hi hk => h i hi k hk, fun h i hi k hk => h i k hi hk⟩
theorem prep_iff {f g : Nat → Nat → Int} {n : Nat} : prep f g n = true ↔ ∀ i, i < n → 3 ≤ cn (f i) (g i) 1 4 := by
  unfold prep
  simp only [List.all_eq_true, List.mem_range, decide_eq_true_eq]
theorem sunk_iff {f g : Nat → Nat → Int} {n : Nat} : sunk f g n = true ↔ ∃ i, i < n ∧ cn (f i) (g i) 1 4 + cn (f i) (g i) 0 4 < 3 := by
  unfold sunk
  simp only [List.any_eq_true, List.mem_range, decide_eq_true_eq]
theorem decide18_ok {n : Nat} {f g : Nat → Nat → Int} (h : rowsOk f n = true) : decide18 true n n f g = if prep f g n then (1, 0) else if sunk f g n then (2, 0) else (0, 0) := by
  simp [decide18, h]
theorem decide18_err {rt : Bool} {n m : Nat} {f g : Nat → Nat → Int} : (decide18 rt n m f g).2 = 0 ∨ decide18 rt n m f g = (0, 181) := by
  unfold decide18
  repeat' split
  all_goals simp
theorem decide18_zero {rt : Bool} {n m : Nat} {f g : Nat → Nat → Int} (h : (decide18 rt n m f g).2 = 0) : rt = true ∧ n = m ∧ rowsOk f n = true := by
  unfold decide18 at h
  split at h
  · rename_i h1
    split at h
    · rename_i h2
      exact ⟨h1.1, h1.2, h2⟩
    · simp at h
  · simp at h
theorem rowsOk_set {f : Nat → Nat → Int} {n i k : Nat} {v : Int} (h : rowsOk f n = true) (hv : 0 ≤ v ∧ v ≤ 2) : rowsOk (setV f i k v) n = true := by
  rw [rowsOk_iff] at h ⊢
  intro i' k' hi hk
  unfold setV
  split
  · exact hv
  · exact h i' k' hi hk
theorem row_set (f : Nat → Nat → Int) (i k : Nat) (v : Int) : setV f i k v i = fun j => if j = k then v else f i j := by
  funext j
  simp [setV]
theorem row_other {f : Nat → Nat → Int} {i i' k : Nat} {v : Int} (h : i' ≠ i) : setV f i k v i' = f i' := by
  funext j
  simp [setV, h]
/-- WHAT IS DECIDED STAYS -/
theorem stays {n : Nat} {f g : Nat → Nat → Int} {i k : Nat} {v : Int} (hn : rowsOk f n = true) (hf : f i k = 0) (hv : 0 ≤ v ∧ v ≤ 2) :
    (decide18 true n n (setV f i k v) g).2 = 0 ∧ ((decide18 true n n f g).1 = 0 ∨ (decide18 true n n (setV f i k v) g).1 = (decide18 true n n f g).1) := by
  have hc : ∀ i', cn (f i') (g i') 1 4 ≤ cn (setV f i k v i') (g i') 1 4 ∧ cn (setV f i k v i') (g i') 1 4 + cn (setV f i k v i') (g i') 0 4 ≤ cn (f i') (g i') 1 4 + cn (f i') (g i') 0 4 := by
    intro i'
    by_cases e : i' = i
    · subst e
      rw [row_set]
      exact cn_set hf 0 4
    · rw [row_other e]
      exact ⟨Nat.le_refl _, Nat.le_refl _⟩
  rw [decide18_ok (rowsOk_set hn hv), decide18_ok hn]
  have hp : prep f g n = true → prep (setV f i k v) g n = true := by
    rw [prep_iff, prep_iff]
    exact fun h i' hi => Nat.le_trans (h i' hi) (hc i').1
  have hs : sunk f g n = true → sunk (setV f i k v) g n = true ∧ prep (setV f i k v) g n = false := by
    intro h
    rw [sunk_iff] at h
    obtain ⟨j, hj, hlt⟩ := h
    have := hc j
    refine ⟨sunk_iff.2 ⟨j, hj, by omega⟩, ?_⟩
    rw [← Bool.not_eq_true, prep_iff]
    intro hall
    have := hall j hj
    omega
  constructor
  · repeat' split
    all_goals rfl
  · cases h1 : prep f g n
    · cases h2 : sunk f g n
      · left; simp
      · right
        obtain ⟨h3, h4⟩ := hs h2
        simp [h3, h4]
    · right
      simp [hp h1]
end Go.Proofs.Ytplliabmnhigbaa
