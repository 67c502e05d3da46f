/- PLAIN LAW: one instance's promises: what is promised never falls. No program in sight. -/
import Derived.Test.YtbpanhmpffjmfaaAccAcc
import Derived.Test.YtbpanhmpffjmfaaAccGet
set_option linter.unusedVariables false
set_option linter.unusedSimpArgs false
namespace Go.Proofs.Ytbpanhmpffjmfaa
open Go.Tk

def i7 : Inst := ⟨7, 0, 0, 0⟩
theorem i7wf : i7.wf := ⟨rfl, rfl, rfl, rfl⟩
/-- what the table holds, where just one instance has been touched -/
def OneI (i : Inst) (m : Rows10) (p : Ballot) (a : Acc) : Prop := ((m = [] ∧ p = noB ∧ a = noA) ∨ m = [(i, ⟨p, a⟩)]) ∧ (a.is = true → less p a.b = false)
theorem less_zero {b : Ballot} (h : 0 ≤ b.r ∧ 0 ≤ b.n) : less b noB = false := by
  unfold less noB
  simp only [decide_eq_false_iff_not]
  omega
theorem less_through {a b c : Ballot} (h : less a b = false) (h' : less b c = false) : less a c = false := by
  unfold less at *
  simp only [decide_eq_false_iff_not] at *
  omega
theorem less_self (a : Ballot) : less a a = false := by
  unfold less
  simp only [decide_eq_false_iff_not]
  omega
theorem mget_one {i : Inst} {r : Row} : mget [(i, r)] i = some r := by simp [mget_cons]
theorem mset_one {i : Inst} {r r' : Row} : mset [(i, r)] i r' = [(i, r')] := by simp [mset]
theorem mset_nil {i : Inst} {r' : Row} : mset ([] : Rows10) i r' = [(i, r')] := by simp [mset]
theorem one_low {most : Int} {i : Inst} {m : Rows10} {p b : Ballot} {a : Acc} (v : ByteArray) (h : OneI i m p a) (hb : 0 ≤ b.r ∧ 0 ≤ b.n) (hl : less b p = true) :
    prepare10 most m i b = (noA, p, false, 0, m) ∧ accept10 most m i b v = (p, false, 0, m) ∧ get10 m i = (p, a, 0) := by
  obtain ⟨h1 | h1, _⟩ := h
  · obtain ⟨_, rfl, _⟩ := h1
    rw [less_zero hb] at hl
    cases hl
  · subst h1
    have e : promise10 most [(i, ⟨p, a⟩)] i b = (⟨p, a⟩, false, 0, [(i, ⟨p, a⟩)]) := by unfold promise10; rw [mget_one]; simp [hl]
    unfold prepare10 accept10 get10
    rw [e, mget_one]
    simp
theorem one_high {most : Int} (hm : 0 < most) {i : Inst} {m : Rows10} {p b : Ballot} {a : Acc} (v : ByteArray) (h : OneI i m p a) (hl : less b p = false) :
    (∃ m1, prepare10 most m i b = (a, b, true, 0, m1) ∧ OneI i m1 b a ∧ get10 m1 i = (b, a, 0)) ∧ (∃ m2, accept10 most m i b v = (b, true, 0, m2) ∧ OneI i m2 b ⟨true, b, v⟩ ∧ get10 m2 i = (b, ⟨true, b, v⟩, 0)) := by
  obtain ⟨h1, h2⟩ := h
  have e : promise10 most m i b = (⟨b, a⟩, true, 0, [(i, ⟨b, a⟩)]) := by
    rcases h1 with ⟨rfl, rfl, rfl⟩ | rfl
    · unfold promise10
      rw [mget_nil]
      have : ¬ most ≤ ((([] : Rows10).length : Nat) : Int) := by simp; omega
      simp only [this, if_false, hl, mset_nil]
      simp
    · unfold promise10
      rw [mget_one]
      simp [hl, mset_one]
  have g : ∀ r : Row, get10 [(i, r)] i = (r.p, r.a, 0) := fun r => by unfold get10; rw [mget_one]
  refine ⟨⟨[(i, ⟨b, a⟩)], by unfold prepare10; rw [e]; simp, ⟨.inr rfl, fun ha => less_through hl (h2 ha)⟩, g _⟩, ⟨[(i, ⟨b, ⟨true, b, v⟩⟩)], by unfold accept10; rw [e]; simp [mset_one], ⟨.inr rfl, fun _ => less_self b⟩, g _⟩⟩
end Go.Proofs.Ytbpanhmpffjmfaa
