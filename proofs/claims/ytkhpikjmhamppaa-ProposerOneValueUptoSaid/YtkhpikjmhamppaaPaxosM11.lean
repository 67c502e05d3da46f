/- PLAIN LAW: one value is chosen: every event keeps what is said of the state (Inv). -/
import Derived.Test.YtkhpikjmhamppaaPaxos11
set_option linter.unusedVariables false
set_option linter.unusedSimpArgs false
namespace Go.Proofs.Ytkhpikjmhamppaa
open Go.Tk

theorem set_same {α : Type} {l : List α} {k : Nat} {a : α} (h : l[k]? = some a) : l.set k a = l := by
  apply List.ext_getElem?
  intro i
  rw [List.getElem?_set]
  split
  · rename_i hi
    subst hi
    rw [if_pos (List.getElem?_eq_some_iff.1 h).1, h]
  · rfl
theorem get_set {α : Type} {l : List α} {k i : Nat} {a x : α} (h : (l.set k a)[i]? = some x) : i = k ∧ x = a ∨ i ≠ k ∧ l[i]? = some x := by
  rw [List.getElem?_set] at h
  split at h
  · rename_i hi
    subst hi
    split at h
    · exact .inl ⟨rfl, by simpa using h.symm⟩
    · simp at h
  · rename_i hi
    exact .inr ⟨fun e => hi e.symm, h⟩
theorem Ask.keep {n : Nat} {P P' : List ByteArray} {s s' : Px} {m : Sent} (h : Ask n P s m) (g : Grow s s') (hp : s'.props = s.props) (hv : s'.vote = s.vote) (hP : ∀ v ∈ P, v ∈ P') : Ask n P' s' m :=
  ⟨h.to_, hP _ h.mine, h.nn, by rw [hp, hv]; exact h.of, g.safe h.safe⟩
def beginS (n : Nat) (s : Px) (k : Nat) (p : Prop11) (v : ByteArray) : Px :=
  { s with round := s.round + 1, props := s.props.set k ⟨p.node, p.n, ⟨s.round + 1, p.node⟩, [], noA, v⟩, l2 := s.l2 ++ (List.range n).map fun i => ⟨i, (k : Int), ⟨s.round + 1, p.node⟩, .empty, noA⟩ }
def voteS (s : Px) (t : Nat) : Px := { s with l3 := s.l3 ++ [⟨t, -1, noB, s.vote, noA⟩] }
def prepS (s : Px) (m : Sent) (row : Rows10) (k : Nat) : Px :=
  { s with accs := s.accs.set m.to_ (prepare10 1 row i0 m.b).2.2.2.2, l4 := if (prepare10 1 row i0 m.b).2.2.1 = true then s.l4 ++ [⟨k, (m.to_ : Int), (prepare10 1 row i0 m.b).2.1, .empty, (prepare10 1 row i0 m.b).1⟩] else s.l4 }
def accS (s : Px) (m : Sent) (row : Rows10) : Px :=
  { s with accs := s.accs.set m.to_ (accept10 1 row i0 m.b m.v).2.2.2, l5 := if (accept10 1 row i0 m.b m.v).2.1 = true then s.l5 ++ (List.range 3).map (fun i => ⟨i, (m.to_ : Int), (accept10 1 row i0 m.b m.v).1, m.v, noA⟩) else s.l5 }
def promS (n : Nat) (s : Px) (m : Sent) (p : Prop11) : Px :=
  { s with props := s.props.set m.to_ (promise11 p m.from_ m.b m.a).2.2, l3 := if (promise11 p m.from_ m.b m.a).2.1 = true then s.l3 ++ (List.range n).map (fun i => ⟨i, (m.to_ : Int), m.b, (promise11 p m.from_ m.b m.a).1, noA⟩) else s.l3 }
def learnS (s : Px) (m : Sent) (l : Learn11) : Px := { s with learns := s.learns.set m.to_ (accepted11 l m.from_ m.b m.v).2.2 }
inductive Move (n : Nat) (s : Px) : Option ByteArray → Px → Prop
  | idle : Move n s none s
  | begin (k : Nat) (p : Prop11) (v : ByteArray) (hp : s.props[k]? = some p) : Move n s (some v) (beginS n s k p v)
  | vote (t : Nat) (ht : t < n) : Move n s none (voteS s t)
  | prep (m : Sent) (row : Rows10) (k : Nat) (hm : m ∈ s.l2) (hk : m.from_ = (k : Int)) (hr : s.accs[m.to_]? = some row) : Move n s none (prepS s m row k)
  | acc (m : Sent) (row : Rows10) (hm : m ∈ s.l3) (hr : s.accs[m.to_]? = some row) : Move n s none (accS s m row)
  | prom (m : Sent) (p : Prop11) (hm : m ∈ s.l4) (hp : s.props[m.to_]? = some p) : Move n s none (promS n s m p)
  | learn (m : Sent) (l : Learn11) (hm : m ∈ s.l5) (hl : s.learns[m.to_]? = some l) : Move n s none (learnS s m l)
section
variable {n : Nat} {P : List ByteArray} {s : Px}
theorem Inv.begin (h : Inv n P s) (k : Nat) (p : Prop11) (v : ByteArray) (hp : s.props[k]? = some p) : Inv n (P ++ [v]) (beginS n s k p v) := by
  have g : Grow s (beginS n s k p v) := Grow.same rfl rfl
  have hP : ∀ x ∈ P, x ∈ P ++ [v] := fun x hx => List.mem_append_left _ hx
  have hk := h.props k p hp
  have hk3 : k < 3 := by have := (List.getElem?_eq_some_iff.1 hp).1; rw [h.np] at this; exact this
  have hround : s.round ≤ (beginS n s k p v).round := by show s.round ≤ s.round + 1; omega
  refine ⟨h.na, by simp [beginS, h.np], h.nl, by have := h.r0; show 0 ≤ s.round + 1; omega, hP _ h.vote, fun a row har => ⟨(h.accs a row har).form, (h.accs a row har).p0, (h.accs a row har).top, (h.accs a row har).acc⟩, ?_, fun j l hl => (h.learns j l hl).grow g, ?_, ?_, fun m hm => (h.m4 m hm).grow g hround, h.m5, h.one⟩
  · intro k' p' hp'
    rcases get_set hp' with ⟨rfl, rfl⟩ | ⟨_, hold⟩
    · refine ⟨hk.node, hk.n_, ⟨?_, ?_⟩, .inr hk.node, .inr (by simp), List.nodup_nil, fun q hq => by simp at hq, fun f hf => by simp [keysOf] at hf, fun hb => by simp [noA] at hb⟩
      · have := h.r0; show 0 ≤ s.round + 1; omega
      · show s.round + 1 ≤ s.round + 1; omega
    · exact (h.props k' p' hold).more hround (fun m hm => hm) hP
  · intro m hm
    rcases List.mem_append.1 hm with hm | hm
    · obtain ⟨h1, k', h2, h3, h4, h5, h6⟩ := h.m2 m hm
      exact ⟨h1, k', h2, h3, h4, Int.le_trans h5 hround, h6⟩
    · obtain ⟨i, hi, rfl⟩ := List.mem_map.1 hm
      have hr0 := h.r0
      have hn := hk.node
      refine ⟨List.mem_range.1 hi, k, hk3, rfl, ?_, ?_, ?_⟩
      · show 1 ≤ s.round + 1; omega
      · show s.round + 1 ≤ s.round + 1; omega
      · show 0 ≤ p.node; omega
  · intro m hm
    have hm' := h.m3 m hm
    refine ⟨hm'.to_, hP _ hm'.mine, hm'.nn, ?_, g.safe hm'.safe⟩
    rcases hm'.of with h1 | ⟨k', p', h1, h2, h3, h4, h5⟩
    · exact .inl h1
    · by_cases hkk : k' = k
      · subst hkk
        rw [hp] at h1
        injection h1 with h1
        subst h1
        have hr := hk.r0
        refine .inr ⟨k', ⟨p.node, p.n, ⟨s.round + 1, p.node⟩, [], noA, v⟩, ?_, h2, h3, ?_, fun e => ?_⟩
        · show (s.props.set k' _)[k']? = _
          rw [List.getElem?_set, if_pos rfl, if_pos (List.getElem?_eq_some_iff.1 hp).1]
        · show m.b.r ≤ s.round + 1; omega
        · exfalso
          have : m.b.r = s.round + 1 := congrArg Ballot.r e
          omega
      · refine .inr ⟨k', p', ?_, h2, h3, h4, h5⟩
        show (s.props.set k _)[k']? = _
        rw [List.getElem?_set, if_neg (fun e => hkk e.symm)]
        exact h1
theorem Inv.vote_ (h : Inv n P s) (t : Nat) (ht : t < n) : Inv n P (voteS s t) := by
  have g : Grow s (voteS s t) := Grow.same rfl rfl
  have hask : ∀ m ∈ s.l3, Ask n P (voteS s t) m := fun m hm => (h.m3 m hm).keep g rfl rfl (fun _ hv => hv)
  refine ⟨h.na, h.np, h.nl, h.r0, h.vote, fun a row har => ⟨(h.accs a row har).form, (h.accs a row har).p0, (h.accs a row har).top, (h.accs a row har).acc⟩, fun k p hp => (h.props k p hp).more (Int.le_refl _) (fun m hm => hm) (fun _ hv => hv), fun j l hl => (h.learns j l hl).grow g, h.m2, ?_, fun m hm => (h.m4 m hm).grow g (Int.le_refl _), ?_, ?_⟩
  · intro m hm
    rcases List.mem_append.1 hm with hm | hm
    · exact hask m hm
    · simp only [List.mem_singleton] at hm
      subst hm
      refine ⟨ht, h.vote, ⟨Int.le_refl _, Int.le_refl _⟩, .inl ⟨rfl, rfl⟩, fun c h1 h2 hc => ?_⟩
      unfold blt noB at hc
      simp only at hc
      omega
  · intro m hm
    obtain ⟨h1, h2, q, hq, e⟩ := h.m5 m hm
    exact ⟨h1, h2, q, List.mem_append_left _ hq, e⟩
  · have key : ∀ m ∈ s.l3, m.b = noB → m.v = s.vote := fun m hm hb => by
      rcases (h.m3 m hm).of with ⟨_, h1⟩ | ⟨k', p', _, _, h3, _⟩
      · exact h1
      · rw [hb] at h3
        simp [noB] at h3
    intro m hm q hq e
    rcases List.mem_append.1 hm with hm | hm <;> rcases List.mem_append.1 hq with hq | hq
    · exact h.one m hm q hq e
    · simp only [List.mem_singleton] at hq
      subst hq
      exact key m hm e
    · simp only [List.mem_singleton] at hm
      subst hm
      exact (key q hq e.symm).symm
    · simp only [List.mem_singleton] at hm hq
      subst hm hq
      rfl
theorem Inv.prep (h : Inv n P s) (m : Sent) (row : Rows10) (k : Nat) (hm : m ∈ s.l2) (hk : m.from_ = (k : Int)) (hr : s.accs[m.to_]? = some row) : Inv n P (prepS s m row k) := by
  have ha := h.accs _ _ hr
  obtain ⟨hto, k', hk3, hk', hb1, hb2, hb3⟩ := h.m2 m hm
  obtain rfl : k' = k := by omega
  have hnn : 0 ≤ m.b.r ∧ 0 ≤ m.b.n := ⟨by omega, hb3⟩
  by_cases hlt : blt m.b (rowOf row).p
  · have e : prepS s m row k' = s := by
      unfold prepS
      rw [prep_no ha.form hnn hlt]
      simp only [Bool.false_eq_true, if_false]
      rw [set_same hr]
    rw [e]
    exact h
  · have hx := prep_yes ha.form hnn hlt
    obtain ⟨s', hs'⟩ : ∃ s', s' = prepS s m row k' := ⟨_, rfl⟩
    have e : s' = { s with accs := s.accs.set m.to_ [(i0, ⟨m.b, (rowOf row).a⟩)], l4 := s.l4 ++ [⟨k', (m.to_ : Int), m.b, .empty, (rowOf row).a⟩] } := by
      rw [hs']
      unfold prepS
      rw [hx]
      simp only [if_true]
    rw [← hs', e]
    clear hs' e s' hx
    obtain ⟨s', hs'⟩ : ∃ s' : Px, s' = { s with accs := s.accs.set m.to_ [(i0, ⟨m.b, (rowOf row).a⟩)], l4 := s.l4 ++ [⟨k', (m.to_ : Int), m.b, .empty, (rowOf row).a⟩] } := ⟨_, rfl⟩
    rw [← hs']
    have hv : ∀ a b v, Voted s' a b v ↔ Voted s a b v := fun a b v => by rw [hs']; rfl
    have hget : s'.accs[m.to_]? = some [(i0, ⟨m.b, (rowOf row).a⟩)] := by
      rw [hs']
      show (s.accs.set _ _)[_]? = _
      rw [List.getElem?_set, if_pos rfl, if_pos (List.getElem?_eq_some_iff.1 hr).1]
    have g : Grow s s' := by
      refine ⟨fun a r har => ?_, fun a b v => (hv a b v).2, fun a b v hx => .inl ((hv a b v).1 hx)⟩
      by_cases hat : a = m.to_
      · subst hat
        rw [hr] at har
        injection har with har
        subst har
        exact ⟨_, hget, hlt⟩
      · refine ⟨r, ?_, blt_irrefl⟩
        rw [hs']
        show (s.accs.set _ _)[_]? = _
        rw [List.getElem?_set, if_neg (fun e => hat e.symm)]
        exact har
    have el : s'.l4 = s.l4 ++ [⟨k', (m.to_ : Int), m.b, .empty, (rowOf row).a⟩] := by rw [hs']
    have e3 : s'.l3 = s.l3 := by rw [hs']
    have e5 : s'.l5 = s.l5 := by rw [hs']
    have e2 : s'.l2 = s.l2 := by rw [hs']
    have er : s'.round = s.round := by rw [hs']
    have ep : s'.props = s.props := by rw [hs']
    have ev : s'.vote = s.vote := by rw [hs']
    have en : s'.learns = s.learns := by rw [hs']
    refine ⟨by rw [hs']; simp [h.na], by rw [ep]; exact h.np, by rw [en]; exact h.nl, by rw [er]; exact h.r0, by rw [ev]; exact h.vote, ?_, ?_, ?_, by rw [e2, er]; exact h.m2, ?_, ?_, ?_, by rw [e3]; exact h.one⟩
    · intro a r har
      rw [hs'] at har
      rcases get_set har with ⟨rfl, rfl⟩ | ⟨_, hold⟩
      · refine ⟨.inr ⟨_, rfl⟩, hnn, fun b v hx => ?_, fun hi => (hv _ _ _).2 (ha.acc hi)⟩
        obtain ⟨t1, t2, t3⟩ := ha.top b v ((hv _ _ _).1 hx)
        exact ⟨ble_trans t1 hlt, t2, t3⟩
      · have hA := h.accs a r hold
        exact ⟨hA.form, hA.p0, fun b v hx => hA.top b v ((hv _ _ _).1 hx), fun hi => (hv _ _ _).2 (hA.acc hi)⟩
    · intro k p hp
      rw [ep] at hp
      exact (h.props k p hp).more (by rw [er]; exact Int.le_refl _) (fun q hq => by rw [el]; exact List.mem_append_left _ hq) (fun _ hv => hv)
    · intro j l hl
      rw [en] at hl
      exact (h.learns j l hl).grow g
    · intro q hq
      rw [e3] at hq
      exact (h.m3 q hq).keep g ep ev (fun _ hv => hv)
    · intro q hq
      rw [el] at hq
      rcases List.mem_append.1 hq with hq | hq
      · exact (h.m4 q hq).grow g (by rw [er]; exact Int.le_refl _)
      · simp only [List.mem_singleton] at hq
        subst hq
        refine ⟨hk3, ⟨hb1, by rw [er]; exact hb2, hb3⟩, m.to_, _, hto, rfl, hget, ?_, fun hi => ⟨(hv _ _ _).2 (ha.acc hi), ?_⟩, fun c w hx hc => ?_⟩
        · show ¬ blt m.b m.b
          exact blt_irrefl
        · exact ble_trans (ha.top _ _ (ha.acc hi)).1 hlt
        · exact (ha.top c w ((hv _ _ _).1 hx)).2
    · intro q hq
      rw [e5] at hq
      rw [e3]
      exact h.m5 q hq
theorem Inv.acc (h : Inv n P s) (m : Sent) (row : Rows10) (hm : m ∈ s.l3) (hr : s.accs[m.to_]? = some row) : Inv n P (accS s m row) := by
  have ha := h.accs _ _ hr
  have hask := h.m3 m hm
  have hnn := hask.nn
  have hto := hask.to_
  by_cases hlt : blt m.b (rowOf row).p
  · have e : accS s m row = s := by
      unfold accS
      rw [acc_no ha.form hnn hlt]
      simp only [Bool.false_eq_true, if_false]
      rw [set_same hr]
    rw [e]
    exact h
  · have hx := acc_yes (v := m.v) ha.form hnn hlt
    obtain ⟨s', hs'⟩ : ∃ s' : Px, s' = { s with accs := s.accs.set m.to_ [(i0, ⟨m.b, ⟨true, m.b, m.v⟩⟩)], l5 := s.l5 ++ (List.range 3).map (fun i => ⟨i, (m.to_ : Int), m.b, m.v, noA⟩) } := ⟨_, rfl⟩
    have e : accS s m row = s' := by
      rw [hs']
      unfold accS
      rw [hx]
      simp only [if_true]
    rw [e]
    clear e hx
    have e5 : s'.l5 = s.l5 ++ (List.range 3).map (fun i => ⟨i, (m.to_ : Int), m.b, m.v, noA⟩) := by rw [hs']
    have hv : ∀ a b v, Voted s' a b v ↔ Voted s a b v ∨ a = m.to_ ∧ b = m.b ∧ v = m.v := by
      intro a b v
      constructor
      · rintro ⟨q, hq, h1, h2, h3⟩
        rw [e5] at hq
        rcases List.mem_append.1 hq with hq | hq
        · exact .inl ⟨q, hq, h1, h2, h3⟩
        · obtain ⟨i, hi, rfl⟩ := List.mem_map.1 hq
          simp only at h1 h2 h3
          exact .inr ⟨by omega, h2.symm, h3.symm⟩
      · rintro (⟨q, hq, h1⟩ | ⟨rfl, rfl, rfl⟩)
        · exact ⟨q, by rw [e5]; exact List.mem_append_left _ hq, h1⟩
        · exact ⟨⟨0, (m.to_ : Int), m.b, m.v, noA⟩, by rw [e5]; exact List.mem_append_right _ (List.mem_map.2 ⟨0, by simp, rfl⟩), rfl, rfl, rfl⟩
    have hget : s'.accs[m.to_]? = some [(i0, ⟨m.b, ⟨true, m.b, m.v⟩⟩)] := by
      rw [hs']
      show (s.accs.set _ _)[_]? = _
      rw [List.getElem?_set, if_pos rfl, if_pos (List.getElem?_eq_some_iff.1 hr).1]
    have g : Grow s s' := by
      refine ⟨fun a r har => ?_, fun a b v hx => (hv a b v).2 (.inl hx), fun a b v hx => ?_⟩
      · by_cases hat : a = m.to_
        · subst hat
          rw [hr] at har
          injection har with har
          subst har
          exact ⟨_, hget, hlt⟩
        · refine ⟨r, ?_, blt_irrefl⟩
          rw [hs']
          show (s.accs.set _ _)[_]? = _
          rw [List.getElem?_set, if_neg (fun e => hat e.symm)]
          exact har
      · rcases (hv a b v).1 hx with hx | ⟨rfl, rfl, rfl⟩
        · exact .inl hx
        · refine .inr (fun r har => ?_)
          rw [hr] at har
          injection har with har
          subst har
          exact hlt
    have e3 : s'.l3 = s.l3 := by rw [hs']
    have e4 : s'.l4 = s.l4 := by rw [hs']
    have e2 : s'.l2 = s.l2 := by rw [hs']
    have er : s'.round = s.round := by rw [hs']
    have ep : s'.props = s.props := by rw [hs']
    have ev : s'.vote = s.vote := by rw [hs']
    have en : s'.learns = s.learns := by rw [hs']
    refine ⟨by rw [hs']; simp [h.na], by rw [ep]; exact h.np, by rw [en]; exact h.nl, by rw [er]; exact h.r0, by rw [ev]; exact h.vote, ?_, ?_, ?_, by rw [e2, er]; exact h.m2, ?_, ?_, ?_, by rw [e3]; exact h.one⟩
    · intro a r har
      rw [hs'] at har
      rcases get_set har with ⟨rfl, rfl⟩ | ⟨hne, hold⟩
      · refine ⟨.inr ⟨_, rfl⟩, hnn, fun b v hx => ?_, fun _ => (hv _ _ _).2 (.inr ⟨rfl, rfl, rfl⟩)⟩
        show ¬ blt m.b b ∧ true = true ∧ ¬ blt m.b b
        rcases (hv _ _ _).1 hx with hx | ⟨_, rfl, _⟩
        · have := ble_trans (ha.top b v hx).1 hlt
          exact ⟨this, rfl, this⟩
        · exact ⟨blt_irrefl, rfl, blt_irrefl⟩
      · have hA := h.accs a r hold
        refine ⟨hA.form, hA.p0, fun b v hx => ?_, fun hi => g.old _ _ _ (hA.acc hi)⟩
        rcases (hv _ _ _).1 hx with hx | ⟨e, _, _⟩
        · exact hA.top b v hx
        · exact absurd e hne
    · intro k p hp
      rw [ep] at hp
      exact (h.props k p hp).more (by rw [er]; exact Int.le_refl _) (fun q hq => by rw [e4]; exact hq) (fun _ hv => hv)
    · intro j l hl
      rw [en] at hl
      exact (h.learns j l hl).grow g
    · intro q hq
      rw [e3] at hq
      exact (h.m3 q hq).keep g ep ev (fun _ hv => hv)
    · intro q hq
      rw [e4] at hq
      exact (h.m4 q hq).grow g (by rw [er]; exact Int.le_refl _)
    · intro q hq
      rw [e5] at hq
      rw [e3]
      rcases List.mem_append.1 hq with hq | hq
      · exact h.m5 q hq
      · obtain ⟨i, hi, rfl⟩ := List.mem_map.1 hq
        exact ⟨List.mem_range.1 hi, ⟨m.to_, hto, rfl⟩, m, hm, rfl, rfl⟩
end
end Go.Proofs.Ytkhpikjmhamppaa
