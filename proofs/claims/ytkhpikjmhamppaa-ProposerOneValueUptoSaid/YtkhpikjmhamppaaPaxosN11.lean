/- PLAIN LAW: one value is chosen: a promise that comes, an acceptance that comes; every event. -/
import Derived.Test.YtkhpikjmhamppaaPaxosM11
set_option linter.unusedVariables false
set_option linter.unusedSimpArgs false
namespace Go.Proofs.Ytkhpikjmhamppaa
open Go.Tk
section
variable {n : Nat} {P : List ByteArray} {s : Px}
/-- the keys of a map whose keys are small, as numbers -/
theorem nat_keys {V : Type} {m : List (Int × V)} {n : Nat} (hn : (keysOf m).Nodup) (h : ∀ f ∈ keysOf m, ∃ a : Nat, a < n ∧ f = (a : Int)) :
    ((keysOf m).map Int.toNat).Nodup ∧ (∀ a ∈ (keysOf m).map Int.toNat, a < n ∧ (a : Int) ∈ keysOf m) := by
  refine ⟨?_, fun a ha => ?_⟩
  · generalize keysOf m = ks at hn h
    induction ks with
    | nil => simp
    | cons k ks ih =>
      have hn' := List.nodup_cons.1 hn
      rw [List.map_cons, List.nodup_cons]
      refine ⟨fun hk => ?_, ih hn'.2 (fun x hx => h x (List.mem_cons_of_mem _ hx))⟩
      obtain ⟨x, hx, e⟩ := List.mem_map.1 hk
      obtain ⟨a, _, ea⟩ := h k (List.mem_cons_self ..)
      obtain ⟨b, _, eb⟩ := h x (List.mem_cons_of_mem _ hx)
      obtain rfl : x = k := by omega
      exact hn'.1 hx
  · obtain ⟨f, hf, rfl⟩ := List.mem_map.1 ha
    obtain ⟨a, h1, rfl⟩ := h f hf
    simp only [Int.toNat_natCast]
    exact ⟨h1, hf⟩
/-- no message asks to accept in a ballot of which too few promises have come -/
theorem Inv.fresh (h : Inv n P s) {k : Nat} {p : Prop11} (hp : s.props[k]? = some p) (h0 : ¬ p.b.r = 0) (hc : (p.prom.length : Int) < p.n / 2 + 1) : ∀ q ∈ s.l3, q.b ≠ p.b := by
  intro q hq e
  have hk := h.props k p hp
  rcases (h.m3 q hq).of with ⟨h1, _⟩ | ⟨k', p', h1, h2, h3, h4, h5⟩
  · rw [e] at h1
    exact h0 (congrArg Ballot.r h1)
  · have hn := hk.bal.resolve_left h0
    rw [e, hn] at h2
    obtain rfl : k = k' := by omega
    rw [hp] at h1
    injection h1 with h1
    subst h1
    have := h5 e
    omega
/-- THE VALUE THAT MORE THAN HALF OF THE PROMISES TELL IS SAFE -/
theorem Inv.safe (h : Inv n P s) {k : Nat} {p : Prop11} (hp : s.props[k]? = some p) (h0 : ¬ p.b.r = 0) (hfresh : ∀ q ∈ s.l3, q.b ≠ p.b) {p' : Prop11} (hpro : Pro n P s k p') (hb : p'.b = p.b) (hlen : n < 2 * p'.prom.length) :
    Safe n s p.b (if p'.best.is = true then p'.best.v else p'.own) := by
  have hkeys := nat_keys hpro.nd (n := n) (fun f hf => by
    obtain ⟨m, hm, h1, _⟩ := hpro.prom f hf
    obtain ⟨a, row, h2, h3, _⟩ := (h.m4 m hm).of
    exact ⟨a, h2, by rw [← h1, h3]⟩)
  have hQ : Quorum n ((keysOf p'.prom).map Int.toNat) := ⟨hkeys.1, fun a ha => (hkeys.2 a ha).1, by simpa [keysOf] using hlen⟩
  -- what a promise says of its acceptor
  have hone : ∀ a ∈ (keysOf p'.prom).map Int.toNat, ∃ m ∈ s.l4, m.b = p.b ∧ (m.a.is = true → p'.best.is = true ∧ ¬ blt p'.best.b m.a.b) ∧ ∃ row, s.accs[a]? = some row ∧ ¬ blt (rowOf row).p p.b ∧ ∀ c w, Voted s a c w → blt c p.b → m.a.is = true ∧ ¬ blt m.a.b c := by
    intro a ha
    obtain ⟨m, hm, h1, h2, h3⟩ := hpro.prom _ (hkeys.2 a ha).2
    obtain ⟨a', row, h4, h5, h6, h7, h8, h9⟩ := (h.m4 m hm).of
    obtain rfl : a' = a := by omega
    rw [hb] at h2
    rw [h2] at h7 h9
    exact ⟨m, hm, h2, h3, row, h6, h7, h9⟩
  intro c hc1 hc2 hc
  by_cases hi : p'.best.is = true
  · rw [if_pos hi]
    obtain ⟨mm, hmm, e1, e2, e3, e4⟩ := hpro.best hi
    obtain ⟨a0, row0, g1, g2, g3, g4, g5, g6⟩ := (h.m4 mm hmm).of
    obtain ⟨g7, g8⟩ := g5 e2
    rw [e3, e4] at g7
    rw [e3, e1, hb] at g8
    obtain ⟨q, hq, q1, q2⟩ := h.voted g7
    have hlt : blt p'.best.b p.b := by
      by_cases hx : blt p'.best.b p.b
      · exact hx
      · have := bal_eq hx g8
        exact absurd (q1.trans this) (hfresh q hq)
    by_cases hcc : blt c p'.best.b
    · have hs := (h.m3 q hq).safe
      rw [q1, q2] at hs
      exact hs c hc1 hc2 hcc
    · refine ⟨_, hQ, fun a ha => ?_⟩
      obtain ⟨m, hm, f1, f2, row, f3, f4, f5⟩ := hone a ha
      refine ⟨row, f3, blt_trans hc f4, fun w hw => ?_⟩
      obtain ⟨f6, f7⟩ := f5 c w hw hc
      obtain ⟨_, f8⟩ := f2 f6
      have hce : c = p'.best.b := bal_eq hcc (ble_trans f7 f8)
      subst hce
      obtain ⟨q', hq', q1', q2'⟩ := h.voted hw
      rw [← q2, ← q2']
      exact h.one q' hq' q hq (q1'.trans q1.symm)
  · rw [if_neg hi]
    refine ⟨_, hQ, fun a ha => ?_⟩
    obtain ⟨m, hm, f1, f2, row, f3, f4, f5⟩ := hone a ha
    refine ⟨row, f3, blt_trans hc f4, fun w hw => ?_⟩
    exact absurd (f2 (f5 c w hw hc).1).1 hi
theorem keys_snoc {V : Type} {m : List (Int × V)} {f : Int} {v : V} : keysOf (m ++ [(f, v)]) = keysOf m ++ [f] := by simp [keysOf]
/-- a proposer behind a promise that counts -/
theorem Inv.pro (h : Inv n P s) {k : Nat} {p : Prop11} (hk : Pro n P s k p) {m : Sent} (hm : m ∈ s.l4) (hmb : m.b = p.b) (hnew : m.from_ ∉ keysOf p.prom) :
    Pro n P s k ⟨p.node, p.n, p.b, p.prom ++ [(m.from_, true)], if m.a.is && (!p.best.is || less p.best.b m.a.b) then m.a else p.best, p.own⟩ := by
  obtain ⟨best, hbest⟩ : ∃ best, best = if m.a.is && (!p.best.is || less p.best.b m.a.b) then m.a else p.best := ⟨_, rfl⟩
  rw [← hbest]
  have hup : p.best.is = true → best.is = true ∧ ¬ blt best.b p.best.b := by
    intro hi
    rw [hbest]
    split
    · rename_i hc
      simp only [hi, Bool.not_true, Bool.false_or, Bool.and_eq_true] at hc
      exact ⟨hc.1, blt_asymm (less_iff.1 hc.2)⟩
    · exact ⟨hi, blt_irrefl⟩
  have hme : m.a.is = true → best.is = true ∧ ¬ blt best.b m.a.b := by
    intro hi
    rw [hbest]
    split
    · exact ⟨hi, blt_irrefl⟩
    · rename_i hc
      simp only [hi, Bool.true_and, Bool.or_eq_true, Bool.not_eq_true', not_or, Bool.not_eq_false, Bool.not_eq_true] at hc
      refine ⟨hc.1, fun hx => ?_⟩
      have := less_iff.2 hx
      rw [hc.2] at this
      exact absurd this (by simp)
  refine ⟨hk.node, hk.n_, hk.r0, hk.bal, hk.own, ?_, fun q hq => ?_, fun f hf => ?_, fun hi => ?_⟩
  · rw [keys_snoc]
    exact List.nodup_append.2 ⟨hk.nd, by simp, fun x hx y hy => by simp at hy; subst hy; exact fun e => hnew (e ▸ hx)⟩
  · rcases List.mem_append.1 hq with hq | hq
    · exact hk.tr q hq
    · simp only [List.mem_singleton] at hq
      rw [hq]
  · rw [keys_snoc] at hf
    rcases List.mem_append.1 hf with hf | hf
    · obtain ⟨m', h1, h2, h3, h4⟩ := hk.prom f hf
      refine ⟨m', h1, h2, h3, fun hi => ?_⟩
      obtain ⟨g1, g2⟩ := h4 hi
      exact ⟨(hup g1).1, ble_trans g2 (hup g1).2⟩
    · simp only [List.mem_singleton] at hf
      exact ⟨m, hm, hf.symm, hmb, hme⟩
  · by_cases hc : (m.a.is && (!p.best.is || less p.best.b m.a.b)) = true
    · have he : best = m.a := by rw [hbest, if_pos hc]
      simp only [he] at hi ⊢
      exact ⟨m, hm, hmb, hi, rfl, rfl⟩
    · have he : best = p.best := by rw [hbest, if_neg hc]
      simp only [he] at hi ⊢
      exact hk.best hi
theorem Inv.prom (h : Inv n P s) (m : Sent) (p : Prop11) (hm : m ∈ s.l4) (hp : s.props[m.to_]? = some p) : Inv n P (promS n s m p) := by
  have hk := h.props _ _ hp
  by_cases hno : p.b.r = 0 ∨ m.b ≠ p.b ∨ m.from_ < 0 ∨ p.n ≤ m.from_ ∨ (mget p.prom m.from_).getD false = true
  · have e : promise11 p m.from_ m.b m.a = (.empty, false, p) := by unfold promise11; rw [if_pos hno]
    have e2 : promS n s m p = s := by
      unfold promS
      rw [e]
      simp only [Bool.false_eq_true, if_false]
      rw [set_same hp]
    rw [e2]
    exact h
  · have e0 := hno
    simp only [not_or, Classical.not_not] at hno
    obtain ⟨h0, hmb, h1, h2, hd⟩ := hno
    have hg : mget p.prom m.from_ = none := by
      cases hx : mget p.prom m.from_ with
      | none => rfl
      | some v =>
        have := hk.tr _ (mget_mem hx)
        simp only at this
        rw [hx, this] at hd
        exact absurd rfl hd
    have hnew : m.from_ ∉ keysOf p.prom := mget_none.1 hg
    obtain ⟨p', hp'⟩ : ∃ p' : Prop11, p' = ⟨p.node, p.n, p.b, p.prom ++ [(m.from_, true)], if m.a.is && (!p.best.is || less p.best.b m.a.b) then m.a else p.best, p.own⟩ := ⟨_, rfl⟩
    have hpro : Pro n P s m.to_ p' := by rw [hp']; exact h.pro hk hm hmb hnew
    have e1 : promise11 p m.from_ m.b m.a = if (p'.prom.length : Int) ≠ p'.n / 2 + 1 then (.empty, false, p') else (if p'.best.is = true then p'.best.v else p'.own, true, p') := by
      unfold promise11
      rw [if_neg e0, mset_new hg]
      simp only [← hp']
      have ea : p'.prom = p.prom ++ [(m.from_, true)] := by rw [hp']
      have eb : p'.best = if m.a.is && (!p.best.is || less p.best.b m.a.b) then m.a else p.best := by rw [hp']
      have ec : p'.n = p.n := by rw [hp']
      have ed : p'.own = p.own := by rw [hp']
      rw [← ea, ← eb, ec, ed]
      split
      · rfl
      · split <;> rfl
    have eb : p'.b = p.b := by rw [hp']
    have en : p'.n = p.n := by rw [hp']
    have hl : p'.prom.length = p.prom.length + 1 := by rw [hp']; simp
    have hset : ∀ s' : Px, s'.accs = s.accs → s'.l5 = s.l5 → s'.l4 = s.l4 → s'.l2 = s.l2 → s'.round = s.round → s'.vote = s.vote → s'.learns = s.learns → s'.props = s.props.set m.to_ p' →
        (∀ q ∈ s'.l3, q ∈ s.l3 ∨ (q.to_ < n ∧ q.b = p.b ∧ q.v = (if p'.best.is = true then p'.best.v else p'.own) ∧ (p'.prom.length : Int) = p'.n / 2 + 1)) → (∀ q ∈ s.l3, q ∈ s'.l3) → Inv n P s' := by
      intro s' ea e5 e4 e2 er ev el ep hq3 hq3'
      have g : Grow s s' := Grow.same ea e5
      have hget : s'.props[m.to_]? = some p' := by
        rw [ep, List.getElem?_set, if_pos rfl, if_pos (List.getElem?_eq_some_iff.1 hp).1]
      have hfr : (p'.prom.length : Int) = p'.n / 2 + 1 → ∀ q ∈ s.l3, q.b ≠ p.b := fun hx => h.fresh hp h0 (by rw [en, hl] at hx; omega)
      refine ⟨by rw [ea]; exact h.na, by rw [ep]; simp [h.np], by rw [el]; exact h.nl, by rw [er]; exact h.r0, by rw [ev]; exact h.vote, ?_, ?_, ?_, by rw [e2, er]; exact h.m2, ?_, ?_, ?_, ?_⟩
      · intro a row har
        rw [ea] at har
        have hA := h.accs a row har
        exact ⟨hA.form, hA.p0, fun b v hx => hA.top b v (by unfold Voted at *; rw [← e5]; exact hx), fun hi => g.old _ _ _ (hA.acc hi)⟩
      · intro k' q hq
        rw [ep] at hq
        rcases get_set hq with ⟨rfl, rfl⟩ | ⟨_, hold⟩
        · exact hpro.more (by rw [er]; exact Int.le_refl _) (fun q hq => by rw [e4]; exact hq) (fun _ hv => hv)
        · exact (h.props k' q hold).more (by rw [er]; exact Int.le_refl _) (fun q hq => by rw [e4]; exact hq) (fun _ hv => hv)
      · intro j l hl
        rw [el] at hl
        exact (h.learns j l hl).grow g
      · intro q hq
        rcases hq3 q hq with hq | ⟨f1, f2, f3, f4⟩
        · have hA := h.m3 q hq
          refine ⟨hA.to_, hA.mine, hA.nn, ?_, g.safe hA.safe⟩
          rcases hA.of with h1 | ⟨k', p'', h1, h2, h3, h4, h5⟩
          · rw [ev]; exact .inl h1
          · by_cases hkk : k' = m.to_
            · subst hkk
              rw [hp] at h1
              injection h1 with h1
              subst h1
              exact .inr ⟨_, p', hget, h2, h3, by rw [eb]; exact h4, fun e => by
                have := h5 (by rw [← eb]; exact e)
                rw [en, hl]; omega⟩
            · exact .inr ⟨k', p'', by rw [ep, List.getElem?_set, if_neg (fun e => hkk e.symm)]; exact h1, h2, h3, h4, h5⟩
        · have hn := hk.bal.resolve_left h0
          have hr0 := hk.r0
          refine ⟨f1, ?_, ?_, .inr ⟨m.to_, p', hget, by rw [f2]; exact hn, by rw [f2]; omega, by rw [f2, eb]; exact Int.le_refl _, fun _ => by omega⟩, ?_⟩
          · rw [f3]
            by_cases hi : p'.best.is = true
            · rw [if_pos hi]
              obtain ⟨mm, hmm, _, g2, _, g4⟩ := hpro.best hi
              obtain ⟨a0, row0, _, _, _, _, g5, _⟩ := (h.m4 mm hmm).of
              obtain ⟨q', hq', _, q2⟩ := h.voted (g5 g2).1
              rw [← g4, ← q2]
              exact (h.m3 q' hq').mine
            · rw [if_neg hi]
              exact hpro.own.resolve_left (by rw [eb]; exact h0)
          · rw [f2]; exact ⟨by omega, by omega⟩
          · rw [f2, f3]
            refine g.safe (h.safe hp h0 (hfr f4) hpro eb ?_)
            rw [hpro.n_] at f4
            omega
      · intro q hq
        rw [e4] at hq
        exact (h.m4 q hq).grow g (by rw [er]; exact Int.le_refl _)
      · intro q hq
        rw [e5] at hq
        obtain ⟨h1, h2, q', h3, h4⟩ := h.m5 q hq
        exact ⟨h1, h2, q', hq3' _ h3, h4⟩
      · intro q hq r hr e
        rcases hq3 q hq with hq | ⟨f1, f2, f3, f4⟩ <;> rcases hq3 r hr with hr | ⟨f1', f2', f3', f4'⟩
        · exact h.one q hq r hr e
        · exact absurd (e.trans f2') (hfr f4' q hq)
        · exact absurd (e.symm.trans f2) (hfr f4 r hr)
        · rw [f3, f3']
    by_cases hcount : (p'.prom.length : Int) ≠ p'.n / 2 + 1
    · have e2 : promise11 p m.from_ m.b m.a = (.empty, false, p') := by rw [e1, if_pos hcount]
      refine hset _ rfl rfl rfl rfl rfl rfl rfl (by unfold promS; rw [e2]) (fun q hq => .inl ?_) (fun q hq => ?_)
      · unfold promS at hq
        rw [e2] at hq
        exact hq
      · unfold promS
        rw [e2]
        exact hq
    · have e2 : promise11 p m.from_ m.b m.a = (if p'.best.is = true then p'.best.v else p'.own, true, p') := by rw [e1, if_neg hcount]
      refine hset _ rfl rfl rfl rfl rfl rfl rfl (by unfold promS; rw [e2]) (fun q hq => ?_) (fun q hq => ?_)
      · unfold promS at hq
        rw [e2] at hq
        simp only [if_true] at hq
        rcases List.mem_append.1 hq with hq | hq
        · exact .inl hq
        · obtain ⟨i, hi, rfl⟩ := List.mem_map.1 hq
          exact .inr ⟨List.mem_range.1 hi, hmb, rfl, Classical.not_not.1 hcount⟩
      · unfold promS
        rw [e2]
        simp only [if_true]
        exact List.mem_append_left _ hq
theorem Inv.learn (h : Inv n P s) (m : Sent) (l : Learn11) (hm : m ∈ s.l5) (hl : s.learns[m.to_]? = some l) : Inv n P (learnS s m l) := by
  have hL := h.learns _ _ hl
  obtain ⟨_, ⟨a, ha, hfrom⟩, _⟩ := h.m5 m hm
  have hfin : ∀ l', Lrn n s l' → Inv n P { s with learns := s.learns.set m.to_ l' } := by
    intro l' hl'
    obtain ⟨s', hs'⟩ : ∃ s' : Px, s' = { s with learns := s.learns.set m.to_ l' } := ⟨_, rfl⟩
    have g : Grow s s' := Grow.same (by rw [hs']) (by rw [hs'])
    have e5 : s'.l5 = s.l5 := by rw [hs']
    have e4 : s'.l4 = s.l4 := by rw [hs']
    have e3 : s'.l3 = s.l3 := by rw [hs']
    have e2 : s'.l2 = s.l2 := by rw [hs']
    have er : s'.round = s.round := by rw [hs']
    have ep : s'.props = s.props := by rw [hs']
    have ev : s'.vote = s.vote := by rw [hs']
    have ea : s'.accs = s.accs := by rw [hs']
    rw [← hs']
    refine ⟨by rw [ea]; exact h.na, by rw [ep]; exact h.np, by rw [hs']; simp [h.nl], by rw [er]; exact h.r0, by rw [ev]; exact h.vote, fun a row har => ?_, fun k p hp => ?_, fun j x hx => ?_, by rw [e2, er]; exact h.m2, fun q hq => ?_, fun q hq => ?_, by rw [e5, e3]; exact h.m5, by rw [e3]; exact h.one⟩
    · rw [ea] at har
      have hA := h.accs a row har
      exact ⟨hA.form, hA.p0, fun b v hx => hA.top b v (by unfold Voted at *; rw [← e5]; exact hx), fun hi => g.old _ _ _ (hA.acc hi)⟩
    · rw [ep] at hp
      exact (h.props k p hp).more (by rw [er]; exact Int.le_refl _) (fun q hq => by rw [e4]; exact hq) (fun _ hv => hv)
    · rw [hs'] at hx
      rcases get_set hx with ⟨rfl, rfl⟩ | ⟨_, hold⟩
      · exact hl'.grow g
      · exact (h.learns j x hold).grow g
    · rw [e3] at hq
      exact (h.m3 q hq).keep g ep ev (fun _ hv => hv)
    · rw [e4] at hq
      exact (h.m4 q hq).grow g (by rw [er]; exact Int.le_refl _)
  refine hfin _ ?_
  unfold accepted11
  split
  · exact hL
  · rename_i hno
    simp only [not_or] at hno
    obtain ⟨h0, h1, h2, h3⟩ := hno
    have hsaid : ∀ q ∈ mset l.said m.from_ ⟨m.b, m.v⟩, ∃ a : Nat, a < n ∧ q.1 = (a : Int) ∧ Voted s a q.2.b q.2.v := by
      intro q hq
      rcases mem_mset hq with rfl | hq
      · exact ⟨a, ha, hfrom, m, hm, hfrom, rfl, rfl⟩
      · exact hL.said q hq
    have hnd := nodup_mset hL.nd m.from_ (⟨m.b, m.v⟩ : Said)
    split
    · exact ⟨hL.n_, hnd, hsaid, fun hi => absurd hi h0, hL.no⟩
    · rename_i hc
      refine ⟨hL.n_, hnd, hsaid, fun _ => ⟨m.b, ?_⟩, fun hf => by simp at hf⟩
      show Chosen n s m.b m.v
      obtain ⟨X, hX⟩ : ∃ X, X = (mset l.said m.from_ ⟨m.b, m.v⟩).filter (fun p => p.2.same ⟨m.b, m.v⟩) := ⟨_, rfl⟩
      have hsub : X.Sublist (mset l.said m.from_ ⟨m.b, m.v⟩) := by rw [hX]; exact List.filter_sublist
      have hndX : (keysOf X).Nodup := hnd.sublist (hsub.map _)
      have hkeys := nat_keys hndX (n := n) (fun f hf => by
        obtain ⟨q, hq, rfl⟩ := List.mem_map.1 hf
        obtain ⟨a', h4, h5, _⟩ := hsaid q (hsub.subset hq)
        exact ⟨a', h4, h5⟩)
      refine ⟨(keysOf X).map Int.toNat, ⟨hkeys.1, fun a ha => (hkeys.2 a ha).1, ?_⟩, fun a' ha' => ?_⟩
      · have hn := hL.n_
        unfold told11 at hc
        rw [← hX, hn] at hc
        simp only [keysOf, List.length_map]
        omega
      · obtain ⟨q, hq, hqa⟩ := List.mem_map.1 (hkeys.2 a' ha').2
        obtain ⟨a2, h4, h5, h6⟩ := hsaid q (hsub.subset hq)
        obtain rfl : a2 = a' := by omega
        rw [hX] at hq
        have hsame := (List.mem_filter.1 hq).2
        unfold Said.same at hsame
        simp only [decide_eq_true_eq] at hsame
        obtain ⟨k1, k2, k3⟩ := hsame
        have e1 : q.2.b = m.b := by
          cases hb : q.2.b; cases hb' : m.b
          simp only [hb, hb'] at k1 k2
          rw [k1, k2]
        have e2 : q.2.v = m.v := by
          have : q.2.v.data = m.v.data := by
            apply Array.ext'
            have hh : ∀ x : ByteArray, x.toList = x.data.toList := fun x => ByteArray.toList_eq x
            rw [← hh, ← hh]
            exact k3
          cases hv : q.2.v; cases hv' : m.v
          simp only [hv, hv'] at this
          rw [this]
        rw [← e1, ← e2]
        exact h6
theorem Inv.move (h : Inv n P s) {o : Option ByteArray} {s' : Px} (hm : Move n s o s') : Inv n (P ++ o.toList) s' := by
  cases hm with
  | idle => simpa using h
  | begin k p v hp => exact h.begin k p v hp
  | vote t ht => simpa using h.vote_ t ht
  | prep m row k hm hk hr => simpa using h.prep m row k hm hk hr
  | acc m row hm hr => simpa using h.acc m row hm hr
  | prom m p hm hp => simpa using h.prom m p hm hp
  | learn m l hm hl => simpa using h.learn m l hm hl
/-- THE LAW -/
theorem Inv.law (h : Inv n P s) : (∀ l ∈ s.learns, l.is = false → l.chosen = .empty) ∧ (∀ l ∈ s.learns, l.is = true → l.chosen ∈ P) ∧ ∀ l ∈ s.learns, ∀ q ∈ s.learns, l.is = true → q.is = true → l.chosen = q.chosen := by
  have hL : ∀ l ∈ s.learns, Lrn n s l := fun l hl => by
    obtain ⟨j, hj, rfl⟩ := List.getElem_of_mem hl
    exact h.learns j _ (List.getElem?_eq_getElem hj)
  refine ⟨fun l hl => (hL l hl).no, fun l hl hi => ?_, fun l hl q hq h1 h2 => ?_⟩
  · obtain ⟨b, hb⟩ := (hL l hl).is hi
    exact h.mine hb
  · obtain ⟨b, hb⟩ := (hL l hl).is h1
    obtain ⟨c, hc⟩ := (hL q hq).is h2
    exact h.agree hb hc
theorem Inv.zero (hn : 1 ≤ n) (vote : ByteArray) (accs : List Rows10) (ha : accs = List.replicate n []) (props : List Prop11) (hp : props = [newP 0 n, newP 1 n, newP 2 n]) : Inv n [vote] ⟨accs, props, [newL n, newL n, newL n], 0, vote, [], [], [], []⟩ := by
  subst ha hp
  have nv : ∀ a b v, ¬ Voted ⟨List.replicate n [], [newP 0 n, newP 1 n, newP 2 n], [newL n, newL n, newL n], 0, vote, [], [], [], []⟩ a b v := fun a b v ⟨m, hm, _⟩ => by simp at hm
  refine ⟨by simp, rfl, rfl, Int.le_refl _, by simp, fun a row har => ?_, fun k p hp => ?_, fun j l hl => ?_, fun m hm => by simp at hm, fun m hm => by simp at hm, fun m hm => by simp at hm, fun m hm => by simp at hm, fun m hm => by simp at hm⟩
  · rw [List.getElem?_replicate] at har
    split at har
    · injection har with har
      subst har
      exact ⟨.inl rfl, ⟨Int.le_refl _, Int.le_refl _⟩, fun b v hv => absurd hv (nv _ _ _), fun hi => by simp [rowOf_nil, noRow, noA] at hi⟩
    · simp at har
  · have hk : p = newP k n := by
      match k, hp with
      | 0, hp => simpa using hp.symm
      | 1, hp => simpa using hp.symm
      | 2, hp => simpa using hp.symm
      | k + 3, hp => simp at hp
    subst hk
    exact ⟨rfl, rfl, ⟨Int.le_refl _, Int.le_refl _⟩, .inl rfl, .inl rfl, List.nodup_nil, fun q hq => by simp [newP] at hq, fun f hf => by simp [newP, keysOf] at hf, fun hb => by simp [newP, noA] at hb⟩
  · have hk : l = newL n := by
      match j, hl with
      | 0, hl => simpa using hl.symm
      | 1, hl => simpa using hl.symm
      | 2, hl => simpa using hl.symm
      | j + 3, hl => simp at hl
    subst hk
    exact ⟨rfl, List.nodup_nil, fun q hq => by simp [newL] at hq, fun hi => by simp [newL] at hi, fun _ => rfl⟩
end
end Go.Proofs.Ytkhpikjmhamppaa
