/- PLAIN LAW: proposer and learner are the document's. No program in sight. -/
import Derived.Test.YtkhpikjmhamppaaRefL11
import Derived.Test.YtkhpikjmhamppaaHeardPlain
set_option linter.unusedVariables false
set_option linter.unusedSimpArgs false
namespace Go.Proofs.Ytkhpikjmhamppaa
open Go.Tk

def bestOf (p : Prop11) : ByteArray × Ballot × Bool := if p.best.is then (p.best.v, p.best.b, true) else (p.own, noB, false)
structure PR (p : Prop11) (q : RP) : Prop where
  node : q.node = p.node
  n : q.n = p.n
  b : q.b = p.b
  own : q.own = p.own
  prom : p.prom = q.from_.map (fun f => (f, true))
  best : foldBest q.own q.l = bestOf p
  len : q.l.length = q.from_.length
  nd : q.from_.Nodup
  rng : ∀ f ∈ q.from_, 0 ≤ f ∧ f < p.n
theorem PR.zero (node n : Int) : PR (newP node n) ⟨node, n, noB, .empty, [], []⟩ := ⟨rfl, rfl, rfl, rfl, rfl, rfl, rfl, List.nodup_nil, fun f hf => by simp at hf⟩
theorem PR.began {p : Prop11} {q : RP} (h : PR p q) (round : Int) (v : ByteArray) : PR ⟨p.node, p.n, ⟨round, p.node⟩, [], noA, v⟩ ⟨q.node, q.n, ⟨round, q.node⟩, v, [], []⟩ :=
  ⟨h.node, h.n, by rw [h.node], rfl, rfl, rfl, rfl, List.nodup_nil, fun f hf => by simp at hf⟩
theorem mget_map_true {l : List Int} {f : Int} : mget (l.map (fun f => (f, true))) f = if f ∈ l then some true else none := by
  induction l with
  | nil => rfl
  | cons x l ih =>
    simp only [List.map_cons, mget_cons, ih, List.mem_cons]
    by_cases h : x = f
    · simp [h]
    · have h2 : ¬ f = x := fun e => h e.symm
      simp [h, h2]
theorem PR.small {p : Prop11} {q : RP} (h : PR p q) (hn : p.n ≤ 9) : q.from_.length ≤ 9 := by
  have hm : (q.from_.map Int.toNat).Nodup := by
    have h0 : ∀ k ∈ q.from_, 0 ≤ k := fun k hk => (h.rng k hk).1
    have hnd := h.nd
    generalize q.from_ = ks at hnd h0
    induction ks with
    | nil => simp
    | cons k ks ih =>
      have hn' := List.nodup_cons.1 hnd
      rw [List.map_cons, List.nodup_cons]
      refine ⟨fun hk => ?_, ih hn'.2 (fun x hx => h0 x (by simp [hx]))⟩
      obtain ⟨x, hx, e⟩ := List.mem_map.1 hk
      have h1 := h0 k (by simp)
      have h2 := h0 x (by simp [hx])
      obtain rfl : x = k := by omega
      exact hn'.1 hx
  have := nodup_le _ (List.range 9) hm (fun x hx => by
    obtain ⟨f, hf, rfl⟩ := List.mem_map.1 hx
    have := h.rng f hf
    rw [List.mem_range]; omega)
  simpa using this
theorem PR.promise {p : Prop11} {q : RP} (h : PR p q) (f : Int) (b : Ballot) (a : Acc) :
    (promise11 p f b a).1 = (rpromise q f b a).1 ∧ (promise11 p f b a).2.1 = (rpromise q f b a).2.1 ∧ PR (promise11 p f b a).2.2 (rpromise q f b a).2.2 := by
  have hg : (mget p.prom f).getD false = true ↔ f ∈ q.from_ := by
    rw [h.prom, mget_map_true]
    split <;> simp [*]
  have hiff : (p.b.r = 0 ∨ b ≠ p.b ∨ f < 0 ∨ p.n ≤ f ∨ (mget p.prom f).getD false = true) ↔ (q.b.r = 0 ∨ b ≠ q.b ∨ f < 0 ∨ q.n ≤ f ∨ f ∈ q.from_) := by
    rw [hg, h.b, h.n]
  by_cases hc : q.b.r = 0 ∨ b ≠ q.b ∨ f < 0 ∨ q.n ≤ f ∨ f ∈ q.from_
  · have hc2 := hiff.2 hc
    unfold promise11 rpromise
    rw [if_pos hc, if_pos hc2]
    exact ⟨rfl, rfl, h⟩
  · have hc2 := fun x => hc (hiff.1 x)
    have hnf : f ∉ q.from_ := fun hf => hc (.inr (.inr (.inr (.inr hf))))
    have hrng : 0 ≤ f ∧ f < p.n := by
      have h1 : ¬ f < 0 := fun x => hc (.inr (.inr (.inl x)))
      have h2 : ¬ q.n ≤ f := fun x => hc (.inr (.inr (.inr (.inl x))))
      rw [h.n] at h2
      omega
    have hset : mset p.prom f true = (q.from_ ++ [f]).map (fun f => (f, true)) := by
      rw [mset_new, h.prom, List.map_append]
      · rfl
      · rw [h.prom, mget_map_true, if_neg hnf]
    obtain ⟨p', hp'⟩ : ∃ x : Prop11, x = ⟨p.node, p.n, p.b, mset p.prom f true, if a.is && (!p.best.is || less p.best.b a.b) then a else p.best, p.own⟩ := ⟨_, rfl⟩
    obtain ⟨q', hq'⟩ : ∃ x : RP, x = ⟨q.node, q.n, q.b, q.own, q.from_ ++ [f], q.l ++ [a]⟩ := ⟨_, rfl⟩
    have hbest : foldBest q.own (q.l ++ [a]) = bestOf p' := by
      unfold foldBest
      rw [List.foldl_append]
      have hb := h.best
      unfold foldBest at hb
      rw [hb, hp']
      simp only [List.foldl_cons, List.foldl_nil, foldStep, bestOf]
      cases hai : a.is <;> cases hbi : p.best.is <;> simp [hai, hbi]
      cases hl : less p.best.b a.b <;> simp [hai, hbi]
    have hpr : PR p' q' := by
      refine ⟨?_, ?_, ?_, ?_, ?_, ?_, ?_, ?_, ?_⟩
      · rw [hp', hq']; exact h.node
      · rw [hp', hq']; exact h.n
      · rw [hp', hq']; exact h.b
      · rw [hp', hq']; exact h.own
      · rw [hp', hq']; exact hset
      · rw [hq']; exact hbest
      · rw [hq']; simp [h.len]
      · rw [hq']; exact List.nodup_append.2 ⟨h.nd, by simp, fun x hx y hy => by simp at hy; subst hy; exact fun e => hnf (e ▸ hx)⟩
      · rw [hp', hq']
        intro x hx
        rcases List.mem_append.1 hx with hx | hx
        · exact h.rng x hx
        · simp at hx; subst hx; exact hrng
    have hlen : ((mset p.prom f true).length : Int) = q.l.length + 1 := by rw [hset, h.len]; simp
    unfold promise11 rpromise
    rw [if_neg hc, if_neg hc2]
    simp only [← hp', ← hq', hlen]
    have hn := h.n
    by_cases hcount : ((q.l.length : Int) + 1) = p.n / 2 + 1
    · have e1 : ¬ (2 * ((q.l.length : Int) + 1) ≤ q.n ∨ q.n < 2 * (q.l.length : Int)) := by omega
      rw [if_neg (by simpa using hcount), if_neg e1, hbest]
      unfold bestOf
      have hb' : p'.best = (if a.is && (!p.best.is || less p.best.b a.b) then a else p.best) := by rw [hp']
      have ho' : p'.own = p.own := by rw [hp']
      rw [← hb']
      cases hbi : p'.best.is
      · simp only [Bool.false_eq_true, if_false]; refine ⟨?_, ?_, hpr⟩ <;> first | rfl | trivial | exact ho'.symm | exact ho'
      · simp only [if_true]; exact ⟨trivial, trivial, hpr⟩
    · have e1 : 2 * ((q.l.length : Int) + 1) ≤ q.n ∨ q.n < 2 * (q.l.length : Int) := by omega
      rw [if_pos (by simpa using hcount), if_pos e1]
      exact ⟨rfl, rfl, hpr⟩

/-! ### learners -/
structure LR (s : Learn11) (r : RL) : Prop where
  n : s.n = r.l.length
  is : s.is = r.is
  chosen : s.chosen = r.chosen
  nd : (keysOf s.said).Nodup
  rng : ∀ q ∈ s.said, 0 ≤ q.1 ∧ q.1 < s.n
  at_ : ∀ k : Nat, k < r.l.length → mget s.said (k : Int) = if (r.l.getD k noSaid).is then some ⟨(r.l.getD k noSaid).b, (r.l.getD k noSaid).v⟩ else none
theorem LR.zero (n : Nat) : LR (newL n) ⟨List.replicate n noSaid, false, .empty⟩ :=
  ⟨by simp [newL], rfl, rfl, List.nodup_nil, fun q hq => by simp [newL] at hq, fun k hk => by
    simp only [List.length_replicate] at hk
    rw [List.getD_eq_getElem?_getD, List.getElem?_replicate, if_pos hk]; rfl⟩
theorem count_range {α : Type} (p : α → Bool) (d : α) (l : List α) : (l.filter p).length = ((List.range l.length).filter (fun i => p (l.getD i d))).length := by
  have e : l = (List.range l.length).map (fun i => l.getD i d) := by
    apply List.ext_getElem
    · simp
    · intro i h1 h2
      simp [List.getD_eq_getElem?_getD, List.getElem?_eq_getElem h1]
  rw (occs := .pos [1]) [e]
  rw [List.filter_map, List.length_map]
  rfl
theorem LR.small {s : Learn11} {r : RL} (h : LR s r) (hn : s.n ≤ 9) : s.said.length ≤ 9 := by
  have := nodup_le _ (List.range 9) (natKeys h.nd (fun q hq => (h.rng q hq).1)) (fun x hx => by
    obtain ⟨q, hq, rfl⟩ := List.mem_map.1 hx
    have := h.rng q hq
    rw [List.mem_range]; omega)
  simpa using this
theorem LR.told {s : Learn11} {r : RL} (h : LR s r) (b : Ballot) (v : ByteArray) : told11 s.said ⟨b, v⟩ = countR b v r.l := by
  unfold told11 countR
  rw [count_range (sameR b v) noSaid]
  have hkey : ∀ q, q ∈ s.said.filter (fun p => p.2.same ⟨b, v⟩) → q.1.toNat ∈ (List.range r.l.length).filter (fun i => sameR b v (r.l.getD i noSaid)) := by
    intro q hq
    obtain ⟨hqm, hqs⟩ := List.mem_filter.1 hq
    have hr := h.rng q hqm
    have hn := h.n
    have hk : q.1.toNat < r.l.length := by omega
    rw [List.mem_filter, List.mem_range]
    refine ⟨hk, ?_⟩
    obtain ⟨j, hj⟩ := List.getElem?_of_mem hqm
    have hg := mget_at h.nd hj
    have ha := h.at_ q.1.toNat hk
    rw [show ((q.1.toNat : Nat) : Int) = q.1 by omega, hg] at ha
    generalize r.l.getD q.1.toNat noSaid = sd at ha ⊢
    cases hi : sd.is
    · simp [hi] at ha
    · simp only [hi, if_true, Option.some.injEq] at ha
      rw [ha] at hqs
      simp only [Said.same, decide_eq_true_eq] at hqs
      simp [sameR, hi, hqs.1, hqs.2.1, hqs.2.2]
  have h1 := nodup_le _ ((List.range r.l.length).filter (fun i => sameR b v (r.l.getD i noSaid))) (natKeys (m := s.said.filter (fun p => p.2.same ⟨b, v⟩)) (h.nd.sublist (List.filter_sublist.map _)) (fun q hq => (h.rng q (List.mem_filter.1 hq).1).1)) (fun x hx => by
    obtain ⟨q, hq, rfl⟩ := List.mem_map.1 hx
    exact hkey q hq)
  have h2 := nodup_le ((List.range r.l.length).filter (fun i => sameR b v (r.l.getD i noSaid))) ((s.said.filter (fun p => p.2.same ⟨b, v⟩)).map (fun q => q.1.toNat)) (List.nodup_range.sublist List.filter_sublist) (fun i hi => by
    rw [List.mem_filter, List.mem_range] at hi
    obtain ⟨hk, hs⟩ := hi
    have ha := h.at_ i hk
    generalize r.l.getD i noSaid = sd at ha hs
    simp only [sameR, Bool.and_eq_true, decide_eq_true_eq] at hs
    rw [hs.1.1.1] at ha
    simp only [if_true] at ha
    exact List.mem_map.2 ⟨_, List.mem_filter.2 ⟨mget_mem ha, by simp [Said.same, hs.1.1.2, hs.1.2, hs.2]⟩, by simp⟩)
  simp only [List.length_map] at h1 h2
  omega
theorem LR.accepted {s : Learn11} {r : RL} (h : LR s r) (f : Nat) (b : Ballot) (v : ByteArray) (hi : s.is = false) (hf : f < r.l.length) :
    (accepted11 s f b v).1 = (raccepted r f b v).1 ∧ (accepted11 s f b v).2.1 = (raccepted r f b v).2.1 ∧ LR (accepted11 s f b v).2.2 (raccepted r f b v).2.2 := by
  have hn := h.n
  have ha := h.at_ f hf
  have hst : stale11 s.said f b = true ↔ (r.l.getD f noSaid).is = true ∧ less (r.l.getD f noSaid).b b = false := by
    unfold stale11
    rw [ha]
    cases hi : (r.l.getD f noSaid).is <;> simp
  have hcond : (s.is = true ∨ (f : Int) < 0 ∨ s.n ≤ f ∨ stale11 s.said f b = true) ↔ ((r.l.getD f noSaid).is = true ∧ less (r.l.getD f noSaid).b b = false) := by
    rw [← hst]
    constructor
    · rintro (h | h | h | h)
      · rw [hi] at h; simp at h
      · omega
      · omega
      · exact h
    · exact fun h => .inr (.inr (.inr h))
  have hset : LR ⟨s.n, mset s.said f ⟨b, v⟩, s.chosen, s.is⟩ ⟨r.l.set f ⟨true, b, v⟩, r.is, r.chosen⟩ := by
    refine ⟨by simp [h.n], h.is, h.chosen, nodup_mset h.nd _ _, fun q hq => ?_, fun k hk => ?_⟩
    · rcases mem_mset hq with rfl | hq
      · simp only; omega
      · exact h.rng q hq
    · simp only [List.length_set] at hk
      simp only [mget_mset]
      by_cases e : f = k
      · subst e
        rw [if_pos rfl, List.getD_eq_getElem?_getD, List.getElem?_set_self hf]
        rfl
      · rw [if_neg (by omega), h.at_ k hk, List.getD_eq_getElem?_getD, List.getD_eq_getElem?_getD, List.getElem?_set_ne e]
  have hcnt := hset.told b v
  simp only at hcnt
  unfold accepted11 raccepted
  by_cases hc : (r.l.getD f noSaid).is = true ∧ less (r.l.getD f noSaid).b b = false
  · rw [if_pos (hcond.2 hc), if_pos hc]
    exact ⟨rfl, rfl, h⟩
  · rw [if_neg (fun x => hc (hcond.1 x)), if_neg hc]
    simp only [hcnt]
    by_cases hm : 2 * (countR b v (r.l.set f ⟨true, b, v⟩) : Int) ≤ r.l.length
    · rw [if_pos (by omega), if_pos hm]
      exact ⟨rfl, rfl, hset⟩
    · rw [if_neg (by omega), if_neg hm]
      exact ⟨rfl, rfl, ⟨hset.n, rfl, rfl, hset.nd, hset.rng, hset.at_⟩⟩
end Go.Proofs.Ytkhpikjmhamppaa
