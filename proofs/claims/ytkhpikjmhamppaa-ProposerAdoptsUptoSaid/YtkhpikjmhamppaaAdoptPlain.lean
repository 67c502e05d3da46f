/- PLAIN LAW: what was accepted is proposed again. No program in sight. -/
import Derived.Test.YtkhpikjmhamppaaLive11
import Derived.Test.YtkhpikjmhamppaaRead11
set_option linter.unusedVariables false
set_option linter.unusedSimpArgs false
namespace Go.Proofs.Ytkhpikjmhamppaa
open Go.Tk

/-- what the law holds behind i promises: whom it has seen, how many, the greatest ballot told, whether any was -/
structure Seen where
  seen : List Bool
  count : Nat
  top : Ballot
  some_ : Bool
def ownV : ByteArray := ⟨#[111, 119, 110]⟩
/-- some promise of l tells the value s in the ballot b -/
def tellsOne (l : List ToldR) (b : Ballot) (s : ByteArray) : Prop := ∃ o ∈ l, o.a.is = true ∧ o.a.b = b ∧ o.a.v.toList = s.toList
structure Adopt (n : Int) (l : List ToldR) (p : Prop11) (st : Seen) : Prop where
  b : p.b = ⟨7, 3⟩
  n_ : p.n = n
  own : p.own = ownV
  len9 : st.seen.length = 9
  seen : ∀ k : Nat, (k : Int) < n → (mget p.prom k).getD false = st.seen.getD k false
  count : p.prom.length = st.count
  tru : ∀ q ∈ p.prom, q.2 = true
  cnt : st.count = (st.seen.take n.toNat).countP id
  best : (st.count : Int) ≤ n / 2 + 1 → st.some_ = p.best.is ∧ (p.best.is = true → st.top = p.best.b ∧ tellsOne l p.best.b p.best.v)
theorem cnt_set : ∀ (l : List Bool) (j : Nat), l[j]? = some false → (l.set j true).countP id = l.countP id + 1 ∧ l.countP id + 1 ≤ l.length
  | [], _, h => by simp at h
  | a :: l, 0, h => by
    simp only [List.getElem?_cons_zero, Option.some.injEq] at h
    subst h
    have := List.countP_le_length (p := id) (l := l)
    simp [List.countP_cons]
    omega
  | a :: l, j + 1, h => by
    simp only [List.getElem?_cons_succ] at h
    obtain ⟨h1, h2⟩ := cnt_set l j h
    simp only [List.set_cons_succ, List.countP_cons, h1, List.length_cons]
    split <;> omega
theorem Adopt.room {n : Int} {l : List ToldR} {p : Prop11} {st : Seen} (h : Adopt n l p st) (hn : n ≤ 9) (k : Nat) (hk : (k : Int) < n) (hs : st.seen.getD k false = false) : (st.count : Int) + 1 ≤ n ∧ ((st.seen.set k true).take n.toNat).countP id = st.count + 1 := by
  have hl : (st.seen.take n.toNat).length = n.toNat := by rw [List.length_take, h.len9]; omega
  have hk2 : (st.seen.take n.toNat)[k]? = some false := by
    rw [List.getElem?_take, if_pos (by omega), List.getElem?_eq_getElem (by rw [h.len9]; omega)]
    rw [List.getD_eq_getElem?_getD, List.getElem?_eq_getElem (by rw [h.len9]; omega)] at hs
    simpa using hs
  obtain ⟨h1, h2⟩ := cnt_set _ k hk2
  rw [← h.cnt] at h1 h2
  rw [hl] at h2
  refine ⟨by omega, ?_⟩
  rw [List.take_set]
  exact h1
theorem tellsOne.more {l : List ToldR} {b : Ballot} {s : ByteArray} (h : tellsOne l b s) (o : ToldR) : tellsOne (l ++ [o]) b s := by
  obtain ⟨x, hx, h1⟩ := h
  exact ⟨x, by simp [hx], h1⟩
theorem Adopt.zero (n : Int) (h : 1 ≤ n ∧ n ≤ 9) : Adopt n [] ⟨3, n, ⟨7, 3⟩, [], noA, ownV⟩ ⟨List.replicate 9 false, 0, noB, false⟩ :=
  ⟨rfl, rfl, rfl, rfl, fun k hk => by rw [List.getD_eq_getElem?_getD, List.getElem?_replicate]; split <;> rfl, rfl, fun q hq => by simp at hq, (by show 0 = List.countP id (List.take n.toNat (List.replicate 9 false)); rw [List.take_replicate, List.countP_replicate]; simp), fun _ => ⟨rfl, fun h => by simp [noA] at h⟩⟩
theorem Adopt.dup {n : Int} {l : List ToldR} {p : Prop11} {st : Seen} (h : Adopt n l p st) (o : ToldR) : Adopt n (l ++ [o]) p st :=
  ⟨h.b, h.n_, h.own, h.len9, h.seen, h.count, h.tru, h.cnt, fun hc => ⟨(h.best hc).1, fun hi => ⟨((h.best hc).2 hi).1, ((h.best hc).2 hi).2.more o⟩⟩⟩
/-- what the law has seen behind a new promise -/
def Seen.next (n : Int) (st : Seen) (k : Nat) (a : Acc) : Seen :=
  if a.is = true ∧ ((st.count : Int) + 1 ≤ n / 2 + 1) then ⟨st.seen.set k true, st.count + 1, if st.some_ = false ∨ less st.top a.b = true then a.b else st.top, true⟩ else ⟨st.seen.set k true, st.count + 1, st.top, st.some_⟩
theorem Adopt.new {n : Int} {l : List ToldR} {p : Prop11} {st : Seen} (h : Adopt n l p st) (o : ToldR) (k : Nat) (hk : (k : Int) < n) (hn : n ≤ 9) (hs : st.seen.getD k false = false) :
    Adopt n (l ++ [o]) (promise11 p k ⟨7, 3⟩ o.a).2.2 (st.next n k o.a) ∧ (promise11 p k ⟨7, 3⟩ o.a).2.1 = decide ((st.count : Int) + 1 = n / 2 + 1) ∧
    ((st.count : Int) + 1 = n / 2 + 1 → ((st.next n k o.a).some_ = false → (promise11 p k ⟨7, 3⟩ o.a).1 = ownV) ∧ ((st.next n k o.a).some_ = true → tellsOne (l ++ [o]) (st.next n k o.a).top (promise11 p k ⟨7, 3⟩ o.a).1)) := by
  have hd : (mget p.prom k).getD false = false := by rw [h.seen k hk, hs]
  have hcond : ¬ (p.b.r = 0 ∨ (⟨7, 3⟩ : Ballot) ≠ p.b ∨ (k : Int) < 0 ∨ p.n ≤ k ∨ (mget p.prom (k : Int)).getD false = true) := by
    rw [h.b, hd, h.n_]
    simp
    omega
  have hk9 : k < 9 := by omega
  obtain ⟨b', hb'⟩ : ∃ x, x = (if (o.a.is && (!p.best.is || less p.best.b o.a.b)) = true then o.a else p.best) := ⟨_, rfl⟩
  have hg : mget p.prom (k : Int) = none := by
    cases hg : mget p.prom (k : Int) with
    | none => rfl
    | some b =>
      have := h.tru _ (mget_mem hg)
      simp only at this
      rw [hg, this] at hd
      simp at hd
  have hlen : (mset p.prom (k : Int) true).length = st.count + 1 := by
    rw [mset_len, if_neg (mget_none.1 hg), h.count]
  have hpr : promise11 p k ⟨7, 3⟩ o.a = (if ((st.count : Int) + 1) ≠ n / 2 + 1 then (.empty, false, ⟨p.node, p.n, p.b, mset p.prom k true, b', p.own⟩) else if b'.is then (b'.v, true, ⟨p.node, p.n, p.b, mset p.prom k true, b', p.own⟩) else (p.own, true, ⟨p.node, p.n, p.b, mset p.prom k true, b', p.own⟩)) := by
    unfold promise11
    rw [if_neg hcond]
    simp only [← hb', hlen, h.n_]
    simp
  have hp2 : (promise11 p k ⟨7, 3⟩ o.a).2.2 = ⟨p.node, p.n, p.b, mset p.prom k true, b', p.own⟩ := by
    rw [hpr]
    split
    · rfl
    · split <;> rfl
  have hrel : (st.count : Int) + 1 ≤ n / 2 + 1 → (st.next n k o.a).some_ = b'.is ∧ (b'.is = true → (st.next n k o.a).top = b'.b ∧ tellsOne (l ++ [o]) b'.b b'.v) := by
    intro hc
    obtain ⟨h1, h2⟩ := h.best (by omega)
    cases hai : o.a.is with
    | false =>
      rw [hai] at hb'
      simp only [Bool.false_and, Bool.false_eq_true, if_false] at hb'
      subst hb'
      simp only [Seen.next, hai, Bool.false_eq_true, false_and, if_false]
      exact ⟨h1, fun hi => ⟨(h2 hi).1, (h2 hi).2.more o⟩⟩
    | true =>
      have hself : tellsOne (l ++ [o]) o.a.b o.a.v := ⟨o, by simp, hai, rfl, rfl⟩
      simp only [Seen.next, hai, hc, and_self, if_true]
      cases hbi : p.best.is with
      | false =>
        rw [hai, hbi] at hb'
        simp at hb'
        subst hb'
        rw [h1, hbi]
        exact ⟨hai.symm, fun _ => ⟨by simp, hself⟩⟩
      | true =>
        obtain ⟨h3, h4⟩ := h2 hbi
        rw [hai, hbi] at hb'
        simp only [Bool.not_true, Bool.false_or, Bool.true_and] at hb'
        rw [h1, hbi, h3]
        simp only [Bool.true_eq_false, false_or]
        by_cases hl : less p.best.b o.a.b = true
        · rw [if_pos hl] at hb' ⊢
          subst hb'
          exact ⟨hai.symm, fun _ => ⟨rfl, hself⟩⟩
        · rw [if_neg hl] at hb' ⊢
          subst hb'
          exact ⟨hbi.symm, fun _ => ⟨rfl, h4.more o⟩⟩
  have hnc : (st.next n k o.a).count = st.count + 1 ∧ (st.next n k o.a).seen = st.seen.set k true := by
    unfold Seen.next
    split <;> exact ⟨rfl, rfl⟩
  refine ⟨?_, ?_, fun hc => ?_⟩
  · rw [hp2]
    refine ⟨h.b, h.n_, h.own, by rw [hnc.2]; simpa using h.len9, fun j hj => ?_, by rw [hnc.1]; exact hlen, fun q hq => ?_, by rw [hnc.1, hnc.2]; exact (h.room hn k hk hs).2.symm, fun hc => hrel (by rw [hnc.1] at hc; exact_mod_cast hc)⟩
    · rw [hnc.2]
      simp only [mget_mset]
      by_cases e : k = j
      · subst e
        rw [if_pos rfl, List.getD_eq_getElem?_getD, List.getElem?_set_self (by rw [h.len9]; omega)]
        try rfl
      · rw [if_neg (by omega), h.seen j hj, List.getD_eq_getElem?_getD, List.getD_eq_getElem?_getD, List.getElem?_set_ne e]
    · rcases mem_mset hq with rfl | hq
      · rfl
      · exact h.tru q hq
  · rw [hpr]
    by_cases hc : (st.count : Int) + 1 = n / 2 + 1
    · simp only [hc, ne_eq, not_true_eq_false, if_false, decide_true]
      split <;> rfl
    · simp [hc]
  · obtain ⟨r1, r2⟩ := hrel (by omega)
    rw [hpr]
    simp only [hc, ne_eq, not_true_eq_false, if_false]
    constructor
    · intro hs'
      rw [r1] at hs'
      simp only [hs', Bool.false_eq_true, if_false]
      exact h.own
    · intro hs'
      rw [r1] at hs'
      obtain ⟨r3, r4⟩ := r2 hs'
      simp only [hs', if_true]
      rw [r3]
      exact r4
end Go.Proofs.Ytkhpikjmhamppaa
