/- PLAIN LAW: what is chosen stays chosen, and more than half have told it. No program in sight. -/
import Derived.Test.YtkhpikjmhamppaaPick11
set_option linter.unusedVariables false
set_option linter.unusedSimpArgs false
namespace Go.Proofs.Ytkhpikjmhamppaa
open Go.Tk

theorem nodup_le {α : Type} [DecidableEq α] : ∀ (ks l : List α), ks.Nodup → (∀ x ∈ ks, x ∈ l) → ks.length ≤ l.length
  | [], l, _, _ => by simp
  | k :: ks, l, hn, hs => by
    have hk : k ∈ l := hs k (by simp)
    have hn' := List.nodup_cons.1 hn
    have := nodup_le ks (l.erase k) hn'.2 (fun x hx => (List.mem_erase_of_ne (fun (e : x = k) => hn'.1 (e ▸ hx))).2 (hs x (by simp [hx])))
    rw [List.length_erase_of_mem hk] at this
    have := List.length_pos_of_mem hk
    simp only [List.length_cons]
    omega
/-- how many of the first n marks are set -/
def marks (by_ : List Bool) (n : Nat) : Nat := ((List.range n).filter (fun k => by_.getD k false)).length
theorem marks_zero (by_ : List Bool) : marks by_ 0 = 0 := rfl
theorem marks_succ (by_ : List Bool) (n : Nat) : marks by_ (n + 1) = marks by_ n + if by_.getD n false = true then 1 else 0 := by
  unfold marks
  rw [List.range_succ, List.filter_append, List.length_append]
  congr 1
  simp only [List.filter_cons, List.filter_nil]
  split <;> rfl
theorem marks_le (by_ : List Bool) (n : Nat) : marks by_ n ≤ n := by
  have := List.length_filter_le (fun k => by_.getD k false) (List.range n)
  simpa [marks] using this
structure Heard (n : Int) (l : List Op11) (s : Learn11) : Prop where
  n_ : s.n = n
  nd : (keysOf s.said).Nodup
  told : ∀ q ∈ s.said, ∃ o ∈ l, pick11 o.from_ n = q.1 ∧ o.v = q.2.v
theorem Heard.zero (n : Int) : Heard n [] (newL n) := ⟨rfl, List.nodup_nil, fun q hq => by simp [newL] at hq⟩
theorem Heard.more {n : Int} {l : List Op11} {s : Learn11} (h : Heard n l s) (o : Op11) : Heard n (l ++ [o]) s :=
  ⟨h.n_, h.nd, fun q hq => by obtain ⟨x, hx, h1⟩ := h.told q hq; exact ⟨x, by simp [hx], h1⟩⟩
theorem natKeys {m : List (Int × Said)} (hn : (keysOf m).Nodup) (h0 : ∀ q ∈ m, 0 ≤ q.1) : (m.map (fun q => q.1.toNat)).Nodup := by
  have hm : m.map (fun q => q.1.toNat) = (keysOf m).map Int.toNat := by simp [keysOf, List.map_map, Function.comp_def]
  rw [hm]
  have h0' : ∀ k ∈ keysOf m, 0 ≤ k := by
    intro k hk
    obtain ⟨q, hq, rfl⟩ := List.mem_map.1 hk
    exact h0 q hq
  generalize keysOf m = ks at hn h0'
  clear hm h0 m
  induction ks with
  | nil => simp
  | cons k ks ih =>
    have hn' := List.nodup_cons.1 hn
    rw [List.map_cons, List.nodup_cons]
    refine ⟨fun hk => ?_, ih hn'.2 (fun x hx => h0' x (by simp [hx]))⟩
    obtain ⟨x, hx, e⟩ := List.mem_map.1 hk
    have h1 := h0' k (by simp)
    have h2 := h0' x (by simp [hx])
    obtain rfl : x = k := by omega
    exact hn'.1 hx
theorem Heard.small {n : Int} {l : List Op11} {s : Learn11} (h : Heard n l s) (hn : 1 ≤ n) (hn9 : n ≤ 9) : s.said.length ≤ 9 := by
  have hr : ∀ q ∈ s.said, 0 ≤ q.1 ∧ q.1 < n := fun q hq => by
    obtain ⟨o, _, h1, _⟩ := h.told q hq
    rw [← h1]
    exact pick11_range hn
  have := nodup_le _ (List.range 9) (natKeys h.nd (fun q hq => (hr q hq).1)) (fun x hx => by
    obtain ⟨q, hq, rfl⟩ := List.mem_map.1 hx
    have := hr q hq
    rw [List.mem_range]; omega)
  simpa using this
theorem Heard.step {n : Int} {l : List Op11} {s : Learn11} (h : Heard n l s) (hn : 1 ≤ n) (hi : s.is = false) (o : Op11) (r : ByteArray × Bool × Learn11) (hr : r = accepted11 s (pick11 o.from_ n) o.b o.v) :
    Heard n (l ++ [o]) r.2.2 ∧ r.2.2.is = r.2.1 ∧ (r.2.1 = true → r.1 = o.v ∧ r.2.2.chosen = o.v ∧
      ∀ by_ : List Bool, (∀ o' ∈ l ++ [o], o'.v.toList = o.v.toList → by_.getD (pick11 o'.from_ n).toNat false = true) → n < 2 * (marks by_ n.toNat : Int)) := by
  obtain ⟨hp0, hp1⟩ := pick11_range (c := o.from_) hn
  have hset : Heard n (l ++ [o]) ⟨s.n, mset s.said (pick11 o.from_ n) ⟨o.b, o.v⟩, s.chosen, s.is⟩ := by
    refine ⟨h.n_, nodup_mset h.nd _ _, fun q hq => ?_⟩
    rcases mem_mset hq with rfl | hq
    · exact ⟨o, by simp, rfl, rfl⟩
    · exact (h.more o).told q hq
  have hlt : ¬ s.n ≤ pick11 o.from_ n := by rw [h.n_]; omega
  have hlt0 : ¬ pick11 o.from_ n < 0 := by omega
  unfold accepted11 at hr
  simp only [hi, Bool.false_eq_true, hlt, hlt0, false_or] at hr
  by_cases hst : stale11 s.said (pick11 o.from_ n) o.b = true
  · rw [if_pos hst] at hr
    subst hr
    exact ⟨h.more o, hi, fun hc => by simp at hc⟩
  · rw [if_neg hst] at hr
    by_cases ht : (told11 (mset s.said (pick11 o.from_ n) ⟨o.b, o.v⟩) ⟨o.b, o.v⟩ : Int) ≤ s.n / 2
    · rw [if_pos ht] at hr
      subst hr
      exact ⟨by simpa [hi] using hset, rfl, fun hc => by simp at hc⟩
    · rw [if_neg ht] at hr
      subst hr
      refine ⟨⟨hset.n_, hset.nd, hset.told⟩, rfl, fun _ => ⟨rfl, rfl, fun by_ hb => ?_⟩⟩
      rw [h.n_] at ht
      have hle : told11 (mset s.said (pick11 o.from_ n) ⟨o.b, o.v⟩) ⟨o.b, o.v⟩ ≤ marks by_ n.toNat := by
        obtain ⟨m, hm⟩ : ∃ m, m = mset s.said (pick11 o.from_ n) ⟨o.b, o.v⟩ := ⟨_, rfl⟩
        have htold := hset.told
        have hnd := hset.nd
        simp only [← hm] at htold hnd ⊢
        unfold told11 marks
        have hsub : (m.filter (fun p => p.2.same ⟨o.b, o.v⟩)).Sublist m := List.filter_sublist
        have hnf : (keysOf (m.filter (fun p => p.2.same ⟨o.b, o.v⟩))).Nodup := hnd.sublist (hsub.map _)
        have hq0 : ∀ q ∈ m.filter (fun p => p.2.same ⟨o.b, o.v⟩), 0 ≤ q.1 ∧ q.1 < n ∧ by_.getD q.1.toNat false = true := fun q hq => by
          obtain ⟨hqm, hqs⟩ := List.mem_filter.1 hq
          obtain ⟨o', ho', e1, e2⟩ := htold q hqm
          have hpr := pick11_range (c := o'.from_) hn
          rw [e1] at hpr
          simp only [Said.same, decide_eq_true_eq] at hqs
          exact ⟨hpr.1, hpr.2, by rw [← e1]; exact hb o' ho' (by rw [e2]; exact hqs.2.2)⟩
        have := nodup_le _ ((List.range n.toNat).filter (fun k => by_.getD k false)) (natKeys hnf (fun q hq => (hq0 q hq).1)) (fun x hx => by
          obtain ⟨q, hq, rfl⟩ := List.mem_map.1 hx
          obtain ⟨h1, h2, h3⟩ := hq0 q hq
          rw [List.mem_filter, List.mem_range]
          exact ⟨by omega, h3⟩)
        simpa using this
      omega
end Go.Proofs.Ytkhpikjmhamppaa
