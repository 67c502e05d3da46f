/- PLAIN LAW: a world of votes, at three tables: one value of each vote is chosen. No program in sight. -/
import Derived.Test.YtplliabmnhigbaaAgrP19
import Derived.Test.YtplliabmnhigbaaAccAcc
set_option linter.unusedVariables false
set_option linter.unusedSimpArgs false
namespace Go.Proofs.Ytplliabmnhigbaa
open Go.Tk
theorem mset_len_le {K V : Type} [DecidableEq K] (m : List (K × V)) (k : K) (v : V) : (mset m k v).length ≤ m.length + 1 := by
  rw [mset_len]
  split <;> omega
theorem promise_ok {most : Int} {m : Rows10} {i : Inst} {b : Ballot} (hl : (m.length : Int) < most) (hb : less b (pOf (mget m i)) = false) : promise10 most m i b = (⟨b, aOf (mget m i)⟩, true, 0, mset m i ⟨b, aOf (mget m i)⟩) := by
  unfold promise10
  cases hg : mget m i with
  | none =>
    rw [hg] at hb
    simp only [pOf] at hb
    simp only [hb, aOf]
    rw [if_neg (by omega)]
    simp
  | some r =>
    rw [hg] at hb
    simp only [pOf] at hb
    simp only [hb, aOf]
    simp
theorem promise_no {most : Int} {m : Rows10} {i : Inst} {b : Ballot} (hl : (m.length : Int) < most) (hb : less b (pOf (mget m i)) = true) : (promise10 most m i b).2.1 = false ∧ (promise10 most m i b).2.2.2 = m := by
  unfold promise10
  cases hg : mget m i with
  | none =>
    rw [hg] at hb
    simp only [pOf] at hb
    simp only [hb]
    rw [if_neg (by omega)]
    simp
  | some r =>
    rw [hg] at hb
    simp only [pOf] at hb
    simp only [hb]
    simp
theorem accept_ok {most : Int} {m : Rows10} {i : Inst} {b : Ballot} {v : ByteArray} (hl : (m.length : Int) < most) (hb : less b (pOf (mget m i)) = false) : accept10 most m i b v = (b, true, 0, mset (mset m i ⟨b, aOf (mget m i)⟩) i ⟨b, ⟨true, b, v⟩⟩) := by
  unfold accept10
  rw [promise_ok hl hb]
  simp
theorem accept_no {most : Int} {m : Rows10} {i : Inst} {b : Ballot} {v : ByteArray} (hl : (m.length : Int) < most) (hb : less b (pOf (mget m i)) = true) : (accept10 most m i b v).2.1 = false ∧ (accept10 most m i b v).2.2.2 = m := by
  unfold accept10
  obtain ⟨h1, h2⟩ := promise_no hl hb
  rw [h1, h2]
  simp
theorem prepare_ok {most : Int} {m : Rows10} {i : Inst} {b : Ballot} (hl : (m.length : Int) < most) (hb : less b (pOf (mget m i)) = false) : prepare10 most m i b = (aOf (mget m i), b, true, 0, mset m i ⟨b, aOf (mget m i)⟩) := by
  unfold prepare10
  rw [promise_ok hl hb]
  simp
/-- what was accepted, of all votes: of which vote, by whom, in which ballot, what -/
structure HdW where
  i : Inst
  k : Nat
  b : Ballot
  v : ByteArray
def hsOf (l : List HdW) (i : Inst) : Hs := l.filterMap (fun e => if e.i = i then some (e.k, e.b, e.v) else none)
theorem hsOf_app (l1 l2 : List HdW) (i : Inst) : hsOf (l1 ++ l2) i = hsOf l1 i ++ hsOf l2 i := List.filterMap_append
theorem mem_hsOf {l : List HdW} {e : HdW} (h : e ∈ l) : (e.k, e.b, e.v) ∈ hsOf l e.i := List.mem_filterMap.2 ⟨e, h, by simp⟩
/-- the world: of each vote its voter's value, the tables, what was accepted, how many ballots there were -/
structure Wd where
  own : Inst → ByteArray
  acc : Nat → Rows10
  l : List HdW
  round : Int
structure WdOk (w : Wd) (n : Nat) : Prop where
  one : ∀ i, One (w.own i) (fun k => mget (w.acc k) i) (hsOf w.l i) w.round
  len : ∀ k, k < 3 → (w.acc k).length ≤ 2 * n
def Wd.zero : Wd := ⟨fun _ => .empty, fun _ => [], [], 0⟩
theorem WdOk.zero : WdOk Wd.zero 0 := ⟨fun i => One.zero _, fun _ _ => Nat.le_refl 0⟩
theorem WdOk.mono {w : Wd} {n m : Nat} (h : WdOk w n) (hm : n ≤ m) : WdOk w m := ⟨h.one, fun k hk => Nat.le_trans (h.len k hk) (by omega)⟩
/-- a vote's value: set once -/
def Wd.set (w : Wd) (i : Inst) (v : ByteArray) : Wd := { w with own := fun j => if j = i then v else w.own j }
theorem WdOk.set {w : Wd} {n : Nat} (h : WdOk w n) {i : Inst} (hi : w.own i = .empty) (v : ByteArray) : WdOk (w.set i v) n := by
  refine ⟨fun j => ?_, h.len⟩
  unfold Wd.set
  simp only
  by_cases e : j = i
  · subst e
    rw [if_pos rfl]
    have := h.one j
    rw [hi] at this
    exact this.own v
  · rw [if_neg e]
    exact h.one j
/-- a value at an acceptor -/
def Wd.accept (w : Wd) (i : Inst) (k : Nat) (b : Ballot) (v : ByteArray) : Wd :=
  { w with acc := upd3 w.acc k (accept10 4096 (w.acc k) i b v).2.2.2, l := if (accept10 4096 (w.acc k) i b v).2.1 then w.l ++ [⟨i, k, b, v⟩] else w.l }
theorem WdOk.vote {w : Wd} {n : Nat} (h : WdOk w n) (hn : 2 * n < 4096) {i : Inst} (hi : w.own i ≠ .empty) {k : Nat} (hk : k < 3) : WdOk (w.accept i k noB (w.own i)) (n + 1) := by
  have hl : ((w.acc k).length : Int) < 4096 := by have := h.len k hk; omega
  unfold Wd.accept
  by_cases hb : less noB (pOf (mget (w.acc k) i)) = true
  · obtain ⟨h1, h2⟩ := accept_no (v := w.own i) hl hb
    rw [h1, h2]
    have hu : upd3 w.acc k (w.acc k) = w.acc := by
      funext j
      unfold upd3
      split
      · rename_i e; rw [e]
      · rfl
    rw [hu]
    exact (h.mono (Nat.le_succ n))
  · have hb := Bool.eq_false_iff.2 hb
    rw [accept_ok hl hb]
    simp only [if_true]
    refine ⟨fun j => ?_, fun q hq => ?_⟩
    · simp only [hsOf_app]
      by_cases e : j = i
      · subst e
        have := (h.one j).vote hk (by simpa [acceptOk] using hb) hi
        have e1 : hsOf [⟨j, k, noB, w.own j⟩] j = [(k, noB, w.own j)] := by simp [hsOf]
        rw [e1]
        have e2 : (fun q => mget (upd3 w.acc k (mset (mset (w.acc k) j ⟨noB, aOf (mget (w.acc k) j)⟩) j ⟨noB, ⟨true, noB, w.own j⟩⟩) q) j) = upd3 (fun k => mget (w.acc k) j) k (acceptI (mget (w.acc k) j) noB (w.own j)) := by
          funext q
          unfold upd3
          split
          · rw [mget_mset, if_pos rfl]
            unfold acceptI
            rw [if_neg (by rw [hb]; simp)]
          · rfl
        rw [e2]
        exact this
      · have e1 : hsOf [⟨i, k, noB, w.own i⟩] j = [] := by simp [hsOf, Ne.symm e]
        rw [e1, List.append_nil]
        have e2 : (fun q => mget (upd3 w.acc k (mset (mset (w.acc k) i ⟨noB, aOf (mget (w.acc k) i)⟩) i ⟨noB, ⟨true, noB, w.own i⟩⟩) q) j) = fun k => mget (w.acc k) j := by
          funext q
          unfold upd3
          split
          · rename_i e3
            rw [mget_mset, if_neg (Ne.symm e), mget_mset, if_neg (Ne.symm e), e3]
          · rfl
        rw [e2]
        exact h.one j
    · have := h.len q hq
      unfold upd3
      simp only
      split
      · rename_i e; subst e
        have a1 := mset_len_le (mset (w.acc q) i ⟨noB, aOf (mget (w.acc q) i)⟩) i (⟨noB, ⟨true, noB, w.own i⟩⟩ : Row)
        have a2 := mset_len_le (w.acc q) i (⟨noB, aOf (mget (w.acc q) i)⟩ : Row)
        omega
      · omega
/-- a proposal: a greater ballot, at the two acceptors it asks -/
def Wd.ballot (w : Wd) (by_ : Int) : Ballot := ⟨w.round + 1, by_⟩
def Wd.prepare (w : Wd) (i : Inst) (k : Nat) (b : Ballot) : Wd := { w with acc := upd3 w.acc k (prepare10 4096 (w.acc k) i b).2.2.2.2 }
def Wd.value (w : Wd) (i : Inst) (k1 k2 : Nat) : ByteArray := propV (aOf (mget (w.acc k1) i)) (aOf (mget (w.acc k2) i))
def Wd.propose (w : Wd) (i : Inst) (k1 k2 : Nat) (by_ : Int) : Wd :=
  ((((({ w with round := w.round + 1 } : Wd).prepare i k1 (w.ballot by_)).prepare i k2 (w.ballot by_)).accept i k1 (w.ballot by_) (w.value i k1 k2)).accept i k2 (w.ballot by_) (w.value i k1 k2))
theorem upd3_same {α : Type} (f : Nat → α) (k : Nat) (x : α) : upd3 f k x k = x := if_pos rfl
theorem upd3_ne {α : Type} (f : Nat → α) {k j : Nat} (x : α) (h : j ≠ k) : upd3 f k x j = f j := if_neg h
theorem mset_len_eq {K V : Type} [DecidableEq K] (m : List (K × V)) (k : K) (v v' : V) : (mset (mset m k v) k v').length = (mset m k v).length := by
  rw [mset_len (mset m k v), if_pos]
  have : mget (mset m k v) k = some v := by rw [mget_mset, if_pos rfl]
  by_cases h : k ∈ keysOf (mset m k v)
  · exact h
  · rw [mget_none.2 h] at this
    exact absurd this (by simp)
/-- one acceptor in a proposal -/
theorem prop_at {m : Rows10} {i : Inst} {b : Ballot} (v : ByteArray) (hl : (m.length : Int) + 1 < 4096) (hb : less b (pOf (mget m i)) = false) :
    (prepare10 4096 m i b) = (aOf (mget m i), b, true, 0, mset m i ⟨b, aOf (mget m i)⟩) ∧
    (accept10 4096 (mset m i ⟨b, aOf (mget m i)⟩) i b v).2.1 = true ∧
    (∀ j, mget (accept10 4096 (mset m i ⟨b, aOf (mget m i)⟩) i b v).2.2.2 j = if i = j then some ⟨b, ⟨true, b, v⟩⟩ else mget m j) ∧
    ((accept10 4096 (mset m i ⟨b, aOf (mget m i)⟩) i b v).2.2.2).length ≤ m.length + 1 := by
  have hl1 := mset_len_le m i (⟨b, aOf (mget m i)⟩ : Row)
  have hb2 : less b (pOf (mget (mset m i ⟨b, aOf (mget m i)⟩) i)) = false := by
    rw [mget_mset, if_pos rfl]
    exact decide_eq_false (by simp only [pOf]; omega)
  refine ⟨prepare_ok (by omega) hb, ?_, fun j => ?_, ?_⟩
  · rw [accept_ok (by omega) hb2]
  · rw [accept_ok (by omega) hb2]
    simp only [mget_mset]
    by_cases e : i = j
    · rw [if_pos e, if_pos e]
    · rw [if_neg e, if_neg e, if_neg e, if_neg e]
  · rw [accept_ok (by omega) hb2]
    simp only [mset_len_eq]
    exact hl1
theorem Wd.propose_eq {w : Wd} {n : Nat} (h : WdOk w n) (hn : 2 * n + 1 < 4096) (i : Inst) {k1 k2 : Nat} (hk1 : k1 < 3) (hk2 : k2 < 3) (h12 : k1 ≠ k2) (by_ : Int) :
    less (w.ballot by_) (pOf (mget (w.acc k1) i)) = false ∧ less (w.ballot by_) (pOf (mget (w.acc k2) i)) = false ∧
    w.propose i k1 k2 by_ = ⟨w.own, upd3 (upd3 w.acc k1 (accept10 4096 (mset (w.acc k1) i ⟨w.ballot by_, aOf (mget (w.acc k1) i)⟩) i (w.ballot by_) (w.value i k1 k2)).2.2.2) k2 (accept10 4096 (mset (w.acc k2) i ⟨w.ballot by_, aOf (mget (w.acc k2) i)⟩) i (w.ballot by_) (w.value i k1 k2)).2.2.2, w.l ++ [⟨i, k1, w.ballot by_, w.value i k1 k2⟩, ⟨i, k2, w.ballot by_, w.value i k1 k2⟩], w.round + 1⟩ := by
  have hbl : ∀ k, k < 3 → less (w.ballot by_) (pOf (mget (w.acc k) i)) = false := fun k hk => by
    have := (h.one i).p k hk
    exact decide_eq_false (by simp only [Wd.ballot]; omega)
  have hlen : ∀ k, k < 3 → ((w.acc k).length : Int) + 1 < 4096 := fun k hk => by have := h.len k hk; omega
  obtain ⟨p1, p2, p3, p4⟩ := prop_at (w.value i k1 k2) (hlen k1 hk1) (hbl k1 hk1)
  obtain ⟨q1, q2, q3, q4⟩ := prop_at (w.value i k1 k2) (hlen k2 hk2) (hbl k2 hk2)
  refine ⟨hbl k1 hk1, hbl k2 hk2, ?_⟩
  unfold Wd.propose Wd.accept Wd.prepare
  have h21 : k2 ≠ k1 := Ne.symm h12
  simp only [upd3_ne _ _ h21, upd3_ne _ _ h12, upd3_same, p1, q1, p2, q2, if_true, List.append_assoc, List.cons_append, List.nil_append]
  congr 1
  funext j
  unfold upd3
  by_cases e2 : j = k2
  · simp [e2]
  · by_cases e1 : j = k1
    · simp [e1, h12]
    · simp [e1, e2]
theorem WdOk.propose {w : Wd} {n : Nat} (h : WdOk w n) (hn : 2 * n + 1 < 4096) (i : Inst) {k1 k2 out : Nat} (hk1 : k1 < 3) (hk2 : k2 < 3) (h12 : k1 ≠ k2) (ho1 : k1 ≠ out) (ho2 : k2 ≠ out) (hout : out < 3) (by_ : Int) : WdOk (w.propose i k1 k2 by_) (n + 1) := by
  obtain ⟨b1, b2, he⟩ := Wd.propose_eq h hn i hk1 hk2 h12 by_
  rw [he]
  have hlen : ∀ k, k < 3 → ((w.acc k).length : Int) + 1 < 4096 := fun k hk => by have := h.len k hk; omega
  obtain ⟨p1, p2, p3, p4⟩ := prop_at (w.value i k1 k2) (hlen k1 hk1) b1
  obtain ⟨q1, q2, q3, q4⟩ := prop_at (w.value i k1 k2) (hlen k2 hk2) b2
  have h21 : k2 ≠ k1 := Ne.symm h12
  refine ⟨fun j => ?_, fun k hk => ?_⟩
  · simp only [hsOf_app]
    by_cases e : j = i
    · subst e
      have := (h.one j).propose hk1 hk2 h12 ho1 ho2 hout (b := w.ballot by_) rfl
      have e1 : hsOf [⟨j, k1, w.ballot by_, w.value j k1 k2⟩, ⟨j, k2, w.ballot by_, w.value j k1 k2⟩] j = [(k1, w.ballot by_, w.value j k1 k2), (k2, w.ballot by_, w.value j k1 k2)] := by simp [hsOf]
      rw [e1]
      refine this.rows (fun k hk => ?_)
      by_cases c1 : k = k2
      · subst c1
        rw [upd3_same, q3, if_pos rfl]
        exact (if_pos (⟨hk, ho2⟩ : k < 3 ∧ k ≠ out)).symm
      · rw [upd3_ne _ _ c1]
        by_cases c2 : k = k1
        · subst c2
          rw [upd3_same, p3, if_pos rfl]
          exact (if_pos (⟨hk, ho1⟩ : k < 3 ∧ k ≠ out)).symm
        · rw [upd3_ne _ _ c2]
          exact (if_neg (fun (hc : k < 3 ∧ k ≠ out) => hc.2 (by omega))).symm
    · have e1 : hsOf [⟨i, k1, w.ballot by_, w.value i k1 k2⟩, ⟨i, k2, w.ballot by_, w.value i k1 k2⟩] j = [] := by simp [hsOf, Ne.symm e]
      rw [e1, List.append_nil]
      refine (h.one j).later.rows (fun k hk => ?_)
      by_cases c1 : k = k2
      · subst c1
        rw [upd3_same, q3, if_neg (Ne.symm e)]
      · rw [upd3_ne _ _ c1]
        by_cases c2 : k = k1
        · subst c2
          rw [upd3_same, p3, if_neg (Ne.symm e)]
        · rw [upd3_ne _ _ c2]
  · have := h.len k hk
    by_cases c1 : k = k2
    · subst c1
      simp only [upd3_same]
      omega
    · simp only [upd3_ne _ _ c1]
      by_cases c2 : k = k1
      · subst c2
        simp only [upd3_same]
        omega
      · simp only [upd3_ne _ _ c2]
        omega
end Go.Proofs.Ytplliabmnhigbaa
