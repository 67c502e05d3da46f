/- PLAIN LAW: one instance, prepared and accepted in a table with room for one, then forgotten: the table is empty. No program in sight. -/
import Derived.Test.YtbpanhmpffjmfaaPromPlain
set_option linter.unusedVariables false
set_option linter.unusedSimpArgs false
namespace Go.Proofs.Ytbpanhmpffjmfaa
open Go.Tk

def i3 : Inst := ⟨3, 9, 0, 0⟩
theorem i3wf : i3.wf := ⟨rfl, rfl, rfl, rfl⟩
/-- nothing yet, or just the instance i -/
def Just (i : Inst) (touched : Bool) (m : Rows10) : Prop := if touched then ∃ r, m = [(i, r)] else m = []
theorem promise_just {most : Int} (hm : 0 < most) {i : Inst} {t : Bool} {m : Rows10} {b : Ballot} (h : Just i t m) (hb : 0 ≤ b.r ∧ 0 ≤ b.n) : Just i true (promise10 most m i b).2.2.2 ∧ ((promise10 most m i b).2.1 = true → Just i true (promise10 most m i b).2.2.2) := by
  have key : Just i true (promise10 most m i b).2.2.2 := by
    cases t with
    | false =>
      have h' : m = [] := by simpa [Just] using h
      subst h'
      unfold promise10
      rw [mget_nil]
      have : ¬ most ≤ ((([] : Rows10).length : Nat) : Int) := by simp; omega
      simp only [this, if_false, less_zero hb, mset_nil]
      exact ⟨_, rfl⟩
    | true =>
      obtain ⟨r, rfl⟩ : ∃ r, m = [(i, r)] := by simpa [Just] using h
      unfold promise10
      rw [mget_one]
      simp only
      split
      · exact ⟨_, rfl⟩
      · exact ⟨_, mset_one⟩
  exact ⟨key, fun _ => key⟩
theorem prepare_just {most : Int} (hm : 0 < most) {i : Inst} {t : Bool} {m : Rows10} {b : Ballot} (h : Just i t m) (hb : 0 ≤ b.r ∧ 0 ≤ b.n) : Just i true (prepare10 most m i b).2.2.2.2 := by
  have := (promise_just hm h hb).1
  unfold prepare10
  split <;> exact this
theorem accept_just {most : Int} (hm : 0 < most) {i : Inst} {t : Bool} {m : Rows10} {b : Ballot} {v : ByteArray} (h : Just i t m) (hb : 0 ≤ b.r ∧ 0 ≤ b.n) : Just i true (accept10 most m i b v).2.2.2 := by
  obtain ⟨r, e⟩ : ∃ r, (promise10 most m i b).2.2.2 = [(i, r)] := by simpa [Just] using (promise_just hm h hb).1
  unfold accept10
  split
  · simp only [e]
    exact ⟨_, mset_one⟩
  · exact ⟨_, e⟩
theorem forget_just {i : Inst} {t : Bool} {m : Rows10} (h : Just i t m) : forget10 m i = (if t then 0 else 102, []) := by
  cases t with
  | false =>
    have h' : m = [] := by simpa [Just] using h
    subst h'
    rfl
  | true =>
    obtain ⟨r, rfl⟩ : ∃ r, m = [(i, r)] := by simpa [Just] using h
    unfold forget10
    rw [mget_one]
    simp [mdel]
end Go.Proofs.Ytbpanhmpffjmfaa
