/- PLAIN LAW: instances stand each by itself. No program in sight. -/
import Derived.Test.YtbpanhmpffjmfaaPromPlain
import Derived.Test.YtbpanhmpffjmfaaRead10
set_option linter.unusedVariables false
set_option linter.unusedSimpArgs false
namespace Go.Proofs.Ytbpanhmpffjmfaa
open Go.Tk

def i1 : Inst := ⟨1, 0, 0, 0⟩
theorem i1wf : i1.wf := ⟨rfl, rfl, rfl, rfl⟩
/-- a step of a script, as far as the rows go -/
def step10 (most : Int) (m : Rows10) (o : OpR) : Rows10 :=
  if o.kind = 1 then (prepare10 most m o.i o.b).2.2.2.2 else if o.kind = 2 then (accept10 most m o.i o.b o.v).2.2.2 else if o.kind = 4 then (forget10 m o.i).2 else m
theorem prepare_rows {most : Int} {m : Rows10} {i : Inst} {b : Ballot} : (prepare10 most m i b).2.2.2.2 = (promise10 most m i b).2.2.2 := by
  unfold prepare10
  split <;> rfl
/-- a row behind a promise; whether it was promised; the row that is told -/
def promised (r : Option Row) (b : Ballot) : Option Row × Bool × Row :=
  match r with
  | none => if less b noB then (none, false, noRow) else (some ⟨b, noA⟩, true, ⟨b, noA⟩)
  | some r => if less b r.p then (some r, false, r) else (some ⟨b, r.a⟩, true, ⟨b, r.a⟩)
theorem promise_get {most : Int} {m : Rows10} {i : Inst} {b : Ballot} (hm : (m.length : Int) < most) :
    mget (promise10 most m i b).2.2.2 i = (promised (mget m i) b).1 ∧ (promise10 most m i b).2.1 = (promised (mget m i) b).2.1 ∧ (promise10 most m i b).1 = (promised (mget m i) b).2.2 := by
  unfold promise10 promised
  have h : ¬ most ≤ (m.length : Int) := by omega
  cases hg : mget m i with
  | none =>
    simp only [h, if_false]
    split <;> simp [hg, mget_mset]
  | some r =>
    simp only
    split <;> simp [hg, mget_mset]
theorem promise_other {most : Int} {m : Rows10} {i j : Inst} {b : Ballot} (hj : i ≠ j) : mget (promise10 most m i b).2.2.2 j = mget m j := by
  unfold promise10
  cases hg : mget m i with
  | none =>
    simp only
    split
    · rfl
    · split
      · rfl
      · simp [mget_mset, hj]
  | some r =>
    simp only
    split
    · rfl
    · simp [mget_mset, hj]
theorem promise_size {most : Int} {m : Rows10} {i : Inst} {b : Ballot} (hn : (keysOf m).Nodup) : (promise10 most m i b).2.2.2.length ≤ m.length + 1 ∧ (keysOf (promise10 most m i b).2.2.2).Nodup ∧ (i ∉ keysOf m → (promise10 most m i b).2.1 = false → (promise10 most m i b).2.2.2 = m) := by
  have hl : ∀ r, (mset m i r).length ≤ m.length + 1 := fun r => by rw [mset_len]; split <;> omega
  unfold promise10
  cases hg : mget m i with
  | none =>
    simp only
    split
    · exact ⟨by simp, hn, fun _ _ => rfl⟩
    · split
      · exact ⟨by simp, hn, fun _ _ => rfl⟩
      · exact ⟨hl _, nodup_mset hn _ _, fun _ h => by simp at h⟩
  | some r =>
    simp only
    split
    · exact ⟨by simp, hn, fun _ _ => rfl⟩
    · exact ⟨hl _, nodup_mset hn _ _, fun _ h => by simp at h⟩
theorem promise_key {most : Int} {m : Rows10} {i : Inst} {b : Ballot} (h : (promise10 most m i b).2.1 = true) : i ∈ keysOf (promise10 most m i b).2.2.2 := by
  unfold promise10 at h ⊢
  cases hg : mget m i with
  | none =>
    rw [hg] at h
    simp only at h ⊢
    split at h
    · simp at h
    · rename_i h1
      rw [if_neg h1]
      split at h
      · simp at h
      · rename_i h2
        rw [if_neg h2]
        simp only [keys_mset]
        split <;> simp_all
  | some r =>
    rw [hg] at h
    simp only at h ⊢
    split at h
    · simp at h
    · rename_i h2
      rw [if_neg h2]
      simp only [keys_mset]
      split <;> simp_all
theorem accept_size {most : Int} {m : Rows10} {i : Inst} {b : Ballot} {v : ByteArray} (hn : (keysOf m).Nodup) : (accept10 most m i b v).2.2.2.length ≤ m.length + 1 ∧ (keysOf (accept10 most m i b v).2.2.2).Nodup := by
  obtain ⟨h1, h2, _⟩ := promise_size (most := most) (i := i) (b := b) hn
  unfold accept10
  split
  · rename_i h
    refine ⟨?_, nodup_mset h2 _ _⟩
    simp only [mset_len, promise_key h, if_true]
    exact h1
  · exact ⟨h1, h2⟩
theorem accept_other {most : Int} {m : Rows10} {i j : Inst} {b : Ballot} {v : ByteArray} (hj : i ≠ j) : mget (accept10 most m i b v).2.2.2 j = mget m j := by
  unfold accept10
  split
  · simp [mget_mset, hj, promise_other hj]
  · simp [promise_other hj]
theorem accept_get {most : Int} {m : Rows10} {i : Inst} {b : Ballot} {v : ByteArray} (hm : (m.length : Int) < most) :
    mget (accept10 most m i b v).2.2.2 i = if (promised (mget m i) b).2.1 then some ⟨(promised (mget m i) b).2.2.p, ⟨true, b, v⟩⟩ else (promised (mget m i) b).1 := by
  obtain ⟨h1, h2, h3⟩ := promise_get (i := i) (b := b) hm
  unfold accept10
  rw [h2, h3]
  split
  · simp [mget_mset]
  · exact h1
theorem forget_size {m : Rows10} {i : Inst} (hn : (keysOf m).Nodup) : (forget10 m i).2.length ≤ m.length ∧ (keysOf (forget10 m i).2).Nodup := by
  unfold forget10
  split
  · exact ⟨Nat.le_refl _, hn⟩
  · exact ⟨(keys_mdel_sub m i).length_le, nodup_mdel hn _⟩
theorem forget_get {m : Rows10} {i j : Inst} (hn : (keysOf m).Nodup) : mget (forget10 m i).2 j = if i = j then none else mget m j := by
  unfold forget10
  split
  · rename_i h
    by_cases e : i = j
    · subst e; simp [h]
    · simp [e]
  · exact mget_mdel hn i j
theorem step_size {most : Int} {m : Rows10} {o : OpR} (hn : (keysOf m).Nodup) : (step10 most m o).length ≤ m.length + 1 ∧ (keysOf (step10 most m o)).Nodup := by
  unfold step10
  split
  · rw [prepare_rows]; exact ⟨(promise_size hn).1, (promise_size hn).2.1⟩
  · split
    · exact accept_size hn
    · split
      · exact ⟨Nat.le_succ_of_le (forget_size hn).1, (forget_size hn).2⟩
      · exact ⟨Nat.le_succ _, hn⟩
theorem step_other {most : Int} {m : Rows10} {o : OpR} {j : Inst} (hn : (keysOf m).Nodup) (hj : o.i ≠ j) : mget (step10 most m o) j = mget m j := by
  unfold step10
  split
  · rw [prepare_rows]; exact promise_other hj
  · split
    · exact accept_other hj
    · split
      · rw [forget_get hn, if_neg hj]
      · rfl
theorem step_same {most : Int} {m m' : Rows10} {o : OpR} (hn : (keysOf m).Nodup) (hn' : (keysOf m').Nodup) (hm : (m.length : Int) < most) (hm' : (m'.length : Int) < most) (hg : mget m o.i = mget m' o.i) : mget (step10 most m o) o.i = mget (step10 most m' o) o.i := by
  unfold step10
  split
  · rw [prepare_rows, prepare_rows, (promise_get hm).1, (promise_get hm').1, hg]
  · split
    · rw [accept_get hm, accept_get hm', hg]
    · split
      · rw [forget_get hn, forget_get hn', if_pos rfl, if_pos rfl]
      · exact hg
/-- what the two tables hold behind k steps -/
def Alone (k : Nat) (m m' : Rows10) : Prop := m.length ≤ k ∧ m'.length ≤ k ∧ (keysOf m).Nodup ∧ (keysOf m').Nodup ∧ mget m i1 = mget m' i1
theorem Alone.zero : Alone 0 [] [] := ⟨by simp, by simp, by simp [keysOf], by simp [keysOf], rfl⟩
theorem Alone.mine {k : Nat} {m m' : Rows10} {o : OpR} (h : Alone k m m') (hk : k < 300) (ho : o.i = i1) : Alone (k + 1) (step10 4096 m o) (step10 4096 m' o) := by
  obtain ⟨h1, h2, h3, h4, h5⟩ := h
  have s1 := step_size (most := 4096) (o := o) h3
  have s2 := step_size (most := 4096) (o := o) h4
  refine ⟨by omega, by omega, s1.2, s2.2, ?_⟩
  rw [← ho] at h5 ⊢
  exact step_same h3 h4 (by omega) (by omega) h5
theorem Alone.other {k : Nat} {m m' : Rows10} {o : OpR} (h : Alone k m m') (ho : o.i ≠ i1) : Alone (k + 1) (step10 4096 m o) m' := by
  obtain ⟨h1, h2, h3, h4, h5⟩ := h
  have s1 := step_size (most := 4096) (o := o) h3
  exact ⟨by omega, by omega, s1.2, h4, (step_other h3 ho).trans h5⟩
theorem Alone.get {k : Nat} {m m' : Rows10} (h : Alone k m m') : get10 m i1 = get10 m' i1 := by
  unfold get10
  rw [h.2.2.2.2]
end Go.Proofs.Ytbpanhmpffjmfaa
