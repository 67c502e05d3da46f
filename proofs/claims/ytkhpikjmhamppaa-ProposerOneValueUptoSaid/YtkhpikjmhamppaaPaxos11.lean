/- PLAIN LAW: one value is chosen. Acceptors, proposers, learners, all that was ever sent; any order of events. No program in sight. -/
import Derived.Test.YtkhpikjmhamppaaPlays11
import Derived.Test.YtkhpikjmhamppaaAccMem11
set_option linter.unusedVariables false
set_option linter.unusedSimpArgs false
namespace Go.Proofs.Ytkhpikjmhamppaa
open Go.Tk

structure Sent where
  to_ : Nat
  from_ : Int
  b : Ballot
  v : ByteArray
  a : Acc
structure Px where
  accs : List Rows10
  props : List Prop11
  learns : List Learn11
  round : Int
  vote : ByteArray
  l2 : List Sent
  l3 : List Sent
  l4 : List Sent
  l5 : List Sent
def i0 : Inst := ⟨0, 0, 0, 0⟩
def rowOf (m : Rows10) : Row := (mget m i0).getD noRow
def blt (a b : Ballot) : Prop := a.r < b.r ∨ a.r = b.r ∧ a.n < b.n
theorem less_iff {a b : Ballot} : less a b = true ↔ blt a b := by simp [less, blt]
theorem bal_eq {a b : Ballot} (h1 : ¬ blt a b) (h2 : ¬ blt b a) : a = b := by
  obtain ⟨x, y⟩ := a; obtain ⟨z, u⟩ := b
  unfold blt at h1 h2
  simp only at h1 h2
  have e1 : x = z := by omega
  have e2 : y = u := by omega
  rw [e1, e2]
theorem blt_irrefl {a : Ballot} : ¬ blt a a := by unfold blt; omega
theorem blt_trans {a b c : Ballot} (h1 : blt a b) (h2 : ¬ blt c b) : blt a c := by unfold blt at *; omega
theorem blt_trans2 {a b c : Ballot} (h1 : ¬ blt b a) (h2 : blt b c) : blt a c := by unfold blt at *; omega
theorem ble_trans {a b c : Ballot} (h1 : ¬ blt b a) (h2 : ¬ blt c b) : ¬ blt c a := by unfold blt at *; omega
theorem blt_asymm {a b : Ballot} (h1 : blt a b) : ¬ blt b a := by unfold blt at *; omega
/-- the acceptor a has accepted v in the ballot b -/
def Voted (s : Px) (a : Nat) (b : Ballot) (v : ByteArray) : Prop := ∃ m ∈ s.l5, m.from_ = (a : Int) ∧ m.b = b ∧ m.v = v
def Quorum (n : Nat) (Q : List Nat) : Prop := Q.Nodup ∧ (∀ a ∈ Q, a < n) ∧ n < 2 * Q.length
theorem quorum_meet {n : Nat} {Q R : List Nat} (h : Quorum n Q) (h' : Quorum n R) : ∃ a, a ∈ Q ∧ a ∈ R := by
  by_cases hc : ∃ a, a ∈ Q ∧ a ∈ R
  · exact hc
  · exfalso
    have := nodup_le (Q ++ R) (List.range n) (List.nodup_append.2 ⟨h.1, h'.1, fun a ha b hb e => hc ⟨a, ha, e ▸ hb⟩⟩) (fun x hx => by
      rw [List.mem_range]
      rcases List.mem_append.1 hx with hx | hx
      · exact h.2.1 x hx
      · exact h'.2.1 x hx)
    have h1 := h.2.2
    have h2 := h'.2.2
    simp only [List.length_append, List.length_range] at this
    omega
def Safe (n : Nat) (s : Px) (b : Ballot) (v : ByteArray) : Prop :=
  ∀ c : Ballot, 0 ≤ c.r → 0 ≤ c.n → blt c b → ∃ Q, Quorum n Q ∧ ∀ a ∈ Q, ∃ row : Rows10, s.accs[a]? = some row ∧ blt c (rowOf row).p ∧ ∀ w, Voted s a c w → w = v
def Chosen (n : Nat) (s : Px) (b : Ballot) (v : ByteArray) : Prop := ∃ Q, Quorum n Q ∧ ∀ a ∈ Q, Voted s a b v
/-- the state s comes to s': acceptors promise more, and what is accepted anew is not below what was promised -/
structure Grow (s s' : Px) : Prop where
  rows : ∀ (a : Nat) (row : Rows10), s.accs[a]? = some row → ∃ row', s'.accs[a]? = some row' ∧ ¬ blt (rowOf row').p (rowOf row).p
  old : ∀ (a : Nat) (b : Ballot) (v : ByteArray), Voted s a b v → Voted s' a b v
  new : ∀ (a : Nat) (b : Ballot) (v : ByteArray), Voted s' a b v → Voted s a b v ∨ ∀ row : Rows10, s.accs[a]? = some row → ¬ blt b (rowOf row).p
theorem Grow.same {s s' : Px} (h1 : s'.accs = s.accs) (h2 : s'.l5 = s.l5) : Grow s s' :=
  ⟨fun a row h => ⟨row, by rw [h1]; exact h, blt_irrefl⟩, fun a b v h => by unfold Voted at *; rw [h2]; exact h, fun a b v h => .inl (by unfold Voted at *; rw [← h2]; exact h)⟩
theorem Grow.safe {n : Nat} {s s' : Px} (g : Grow s s') {b : Ballot} {v : ByteArray} (h : Safe n s b v) : Safe n s' b v := by
  intro c h1 h2 hc
  obtain ⟨Q, hQ, hq⟩ := h c h1 h2 hc
  refine ⟨Q, hQ, fun a ha => ?_⟩
  obtain ⟨row, hr, hp, hw⟩ := hq a ha
  obtain ⟨row', hr', hp'⟩ := g.rows a row hr
  refine ⟨row', hr', blt_trans hp hp', fun w hv => ?_⟩
  rcases g.new a c w hv with h | h
  · exact hw w h
  · exact absurd hp (h row hr)
theorem Grow.chosen {n : Nat} {s s' : Px} (g : Grow s s') {b : Ballot} {v : ByteArray} (h : Chosen n s b v) : Chosen n s' b v := by
  obtain ⟨Q, hQ, hq⟩ := h
  exact ⟨Q, hQ, fun a ha => g.old _ _ _ (hq a ha)⟩
/-- a message that asks to accept -/
structure Ask (n : Nat) (P : List ByteArray) (s : Px) (m : Sent) : Prop where
  to_ : m.to_ < n
  mine : m.v ∈ P
  nn : 0 ≤ m.b.r ∧ 0 ≤ m.b.n
  of : m.b = noB ∧ m.v = s.vote ∨ ∃ (k : Nat) (p : Prop11), s.props[k]? = some p ∧ m.b.n = (k : Int) ∧ 1 ≤ m.b.r ∧ m.b.r ≤ p.b.r ∧ (m.b = p.b → p.n / 2 + 1 ≤ (p.prom.length : Int))
  safe : Safe n s m.b m.v
/-- a promise -/
structure Prm (n : Nat) (s : Px) (m : Sent) : Prop where
  to_ : m.to_ < 3
  nn : 1 ≤ m.b.r ∧ m.b.r ≤ s.round ∧ 0 ≤ m.b.n
  of : ∃ (a : Nat) (row : Rows10), a < n ∧ m.from_ = (a : Int) ∧ s.accs[a]? = some row ∧ ¬ blt (rowOf row).p m.b ∧ (m.a.is = true → Voted s a m.a.b m.a.v ∧ ¬ blt m.b m.a.b) ∧ (∀ c w, Voted s a c w → blt c m.b → m.a.is = true ∧ ¬ blt m.a.b c)
theorem Prm.grow {n : Nat} {s s' : Px} {m : Sent} (h : Prm n s m) (g : Grow s s') (hr : s.round ≤ s'.round) : Prm n s' m := by
  obtain ⟨a, row, h1, h2, h3, h4, h5, h6⟩ := h.of
  obtain ⟨row', hr', hp'⟩ := g.rows a row h3
  refine ⟨h.to_, ⟨h.nn.1, Int.le_trans h.nn.2.1 hr, h.nn.2.2⟩, a, row', h1, h2, hr', ble_trans h4 hp', fun hi => ⟨g.old _ _ _ (h5 hi).1, (h5 hi).2⟩, fun c w hv hc => ?_⟩
  rcases g.new a c w hv with h | h
  · exact h6 c w h hc
  · exact absurd (blt_trans hc h4) (h row h3)
/-- a proposer -/
structure Pro (n : Nat) (P : List ByteArray) (s : Px) (k : Nat) (p : Prop11) : Prop where
  node : p.node = (k : Int)
  n_ : p.n = (n : Int)
  r0 : 0 ≤ p.b.r ∧ p.b.r ≤ s.round
  bal : p.b.r = 0 ∨ p.b.n = (k : Int)
  own : p.b.r = 0 ∨ p.own ∈ P
  nd : (keysOf p.prom).Nodup
  tr : ∀ q ∈ p.prom, q.2 = true
  prom : ∀ f ∈ keysOf p.prom, ∃ m ∈ s.l4, m.from_ = f ∧ m.b = p.b ∧ (m.a.is = true → p.best.is = true ∧ ¬ blt p.best.b m.a.b)
  best : p.best.is = true → ∃ m ∈ s.l4, m.b = p.b ∧ m.a.is = true ∧ m.a.b = p.best.b ∧ m.a.v = p.best.v
theorem Pro.more {n : Nat} {P P' : List ByteArray} {s s' : Px} {k : Nat} {p : Prop11} (h : Pro n P s k p) (hr : s.round ≤ s'.round) (hl : ∀ m ∈ s.l4, m ∈ s'.l4) (hP : ∀ v ∈ P, v ∈ P') : Pro n P' s' k p :=
  ⟨h.node, h.n_, ⟨h.r0.1, Int.le_trans h.r0.2 hr⟩, h.bal, h.own.imp id (hP _), h.nd, h.tr, fun f hf => by
    obtain ⟨m, hm, r⟩ := h.prom f hf
    exact ⟨m, hl m hm, r⟩, fun hb => by
    obtain ⟨m, hm, r⟩ := h.best hb
    exact ⟨m, hl m hm, r⟩⟩
/-- a learner -/
structure Lrn (n : Nat) (s : Px) (l : Learn11) : Prop where
  n_ : l.n = (n : Int)
  nd : (keysOf l.said).Nodup
  said : ∀ q ∈ l.said, ∃ a : Nat, a < n ∧ q.1 = (a : Int) ∧ Voted s a q.2.b q.2.v
  is : l.is = true → ∃ b, Chosen n s b l.chosen
  no : l.is = false → l.chosen = .empty
theorem Lrn.grow {n : Nat} {s s' : Px} {l : Learn11} (h : Lrn n s l) (g : Grow s s') : Lrn n s' l :=
  ⟨h.n_, h.nd, fun q hq => by
    obtain ⟨a, h1, h2, h3⟩ := h.said q hq
    exact ⟨a, h1, h2, g.old _ _ _ h3⟩, fun hi => by
    obtain ⟨b, hb⟩ := h.is hi
    exact ⟨b, g.chosen hb⟩, h.no⟩
/-- an acceptor -/
structure Acp (s : Px) (a : Nat) (row : Rows10) : Prop where
  form : row = [] ∨ ∃ r, row = [(i0, r)]
  p0 : 0 ≤ (rowOf row).p.r ∧ 0 ≤ (rowOf row).p.n
  top : ∀ b v, Voted s a b v → ¬ blt (rowOf row).p b ∧ (rowOf row).a.is = true ∧ ¬ blt (rowOf row).a.b b
  acc : (rowOf row).a.is = true → Voted s a (rowOf row).a.b (rowOf row).a.v
structure Inv (n : Nat) (P : List ByteArray) (s : Px) : Prop where
  na : s.accs.length = n
  np : s.props.length = 3
  nl : s.learns.length = 3
  r0 : 0 ≤ s.round
  vote : s.vote ∈ P
  accs : ∀ (a : Nat) (row : Rows10), s.accs[a]? = some row → Acp s a row
  props : ∀ (k : Nat) (p : Prop11), s.props[k]? = some p → Pro n P s k p
  learns : ∀ (j : Nat) (l : Learn11), s.learns[j]? = some l → Lrn n s l
  m2 : ∀ m ∈ s.l2, m.to_ < n ∧ ∃ k : Nat, k < 3 ∧ m.from_ = (k : Int) ∧ 1 ≤ m.b.r ∧ m.b.r ≤ s.round ∧ 0 ≤ m.b.n
  m3 : ∀ m ∈ s.l3, Ask n P s m
  m4 : ∀ m ∈ s.l4, Prm n s m
  m5 : ∀ m ∈ s.l5, m.to_ < 3 ∧ (∃ a : Nat, a < n ∧ m.from_ = (a : Int)) ∧ ∃ q ∈ s.l3, q.b = m.b ∧ q.v = m.v
  one : ∀ m ∈ s.l3, ∀ q ∈ s.l3, m.b = q.b → m.v = q.v
theorem Inv.voted {n : Nat} {P : List ByteArray} {s : Px} (h : Inv n P s) {a : Nat} {b : Ballot} {v : ByteArray} (hv : Voted s a b v) : ∃ q ∈ s.l3, q.b = b ∧ q.v = v := by
  obtain ⟨m, hm, h1, h2, h3⟩ := hv
  obtain ⟨_, _, q, hq, e1, e2⟩ := h.m5 m hm
  exact ⟨q, hq, e1.trans h2, e2.trans h3⟩
/-- TWO VALUES CHOSEN ARE ONE -/
theorem Inv.agree {n : Nat} {P : List ByteArray} {s : Px} (h : Inv n P s) {b c : Ballot} {v w : ByteArray} (hv : Chosen n s b v) (hw : Chosen n s c w) : v = w := by
  have key : ∀ {b c : Ballot} {v w : ByteArray}, Chosen n s b v → Chosen n s c w → blt b c → v = w := by
    intro b c v w ⟨Q, hQ, hq⟩ ⟨R, hR, hr⟩ hbc
    obtain ⟨a0, ha0, _⟩ := quorum_meet hR hR
    obtain ⟨q, hq3, e1, e2⟩ := h.voted (hr a0 ha0)
    have hs := (h.m3 q hq3).safe
    rw [e1, e2] at hs
    obtain ⟨a1, ha1, _⟩ := quorum_meet hQ hQ
    obtain ⟨q', hq3', e1', e2'⟩ := h.voted (hq a1 ha1)
    have hnn := (h.m3 q' hq3').nn
    rw [e1'] at hnn
    obtain ⟨S, hS, hs'⟩ := hs b hnn.1 hnn.2 hbc
    obtain ⟨a, haQ, haS⟩ := quorum_meet hQ hS
    obtain ⟨row, _, _, hone⟩ := hs' a haS
    exact hone v (hq a haQ)
  by_cases h1 : blt b c
  · exact key hv hw h1
  · by_cases h2 : blt c b
    · exact (key hw hv h2).symm
    · obtain rfl := bal_eq h1 h2
      obtain ⟨Q, hQ, hq⟩ := hv
      obtain ⟨R, hR, hr⟩ := hw
      obtain ⟨a, haQ, haR⟩ := quorum_meet hQ hR
      obtain ⟨q, hq3, e1, e2⟩ := h.voted (hq a haQ)
      obtain ⟨q', hq3', e1', e2'⟩ := h.voted (hr a haR)
      rw [← e2, ← e2']
      exact h.one q hq3 q' hq3' (e1.trans e1'.symm)
/-- what is chosen somebody proposed -/
theorem Inv.mine {n : Nat} {P : List ByteArray} {s : Px} (h : Inv n P s) {b : Ballot} {v : ByteArray} (hv : Chosen n s b v) : v ∈ P := by
  obtain ⟨Q, hQ, hq⟩ := hv
  obtain ⟨a, ha, _⟩ := quorum_meet hQ hQ
  obtain ⟨q, hq3, _, e2⟩ := h.voted (hq a ha)
  rw [← e2]
  exact (h.m3 q hq3).mine
/-! ### what an acceptor answers -/
theorem rowOf_one {r : Row} : rowOf [(i0, r)] = r := rfl
theorem rowOf_nil : rowOf [] = noRow := rfl
theorem prep_no {row : Rows10} {b : Ballot} (hf : row = [] ∨ ∃ r, row = [(i0, r)]) (h0 : 0 ≤ b.r ∧ 0 ≤ b.n) (h : blt b (rowOf row).p) : prepare10 1 row i0 b = (noA, (rowOf row).p, false, 0, row) := by
  rcases hf with rfl | ⟨r, rfl⟩
  · exfalso
    rw [rowOf_nil] at h
    unfold blt noRow noB at h
    simp only at h
    omega
  · rw [rowOf_one] at h ⊢
    have hl := less_iff.2 h
    have hg : mget [(i0, r)] i0 = some r := rfl
    simp [prepare10, promise10, hg, hl]
theorem prep_yes {row : Rows10} {b : Ballot} (hf : row = [] ∨ ∃ r, row = [(i0, r)]) (h0 : 0 ≤ b.r ∧ 0 ≤ b.n) (h : ¬ blt b (rowOf row).p) : prepare10 1 row i0 b = ((rowOf row).a, b, true, 0, [(i0, ⟨b, (rowOf row).a⟩)]) := by
  rcases hf with rfl | ⟨r, rfl⟩
  · rw [rowOf_nil] at h ⊢
    have hl : less b noB = false := by
      rw [Bool.eq_false_iff]
      exact fun hc => h (less_iff.1 hc)
    have hg : mget ([] : Rows10) i0 = none := rfl
    have hs : mset ([] : Rows10) i0 ⟨b, noA⟩ = [(i0, ⟨b, noA⟩)] := rfl
    simp [prepare10, promise10, hg, hl, hs, noRow]
  · rw [rowOf_one] at h ⊢
    have hl : less b r.p = false := by
      rw [Bool.eq_false_iff]
      exact fun hc => h (less_iff.1 hc)
    have hg : mget [(i0, r)] i0 = some r := rfl
    have hs : mset [(i0, r)] i0 ⟨b, r.a⟩ = [(i0, ⟨b, r.a⟩)] := rfl
    simp [prepare10, promise10, hg, hl, hs]
theorem acc_no {row : Rows10} {b : Ballot} {v : ByteArray} (hf : row = [] ∨ ∃ r, row = [(i0, r)]) (h0 : 0 ≤ b.r ∧ 0 ≤ b.n) (h : blt b (rowOf row).p) : accept10 1 row i0 b v = ((rowOf row).p, false, 0, row) := by
  rcases hf with rfl | ⟨r, rfl⟩
  · exfalso
    rw [rowOf_nil] at h
    unfold blt noRow noB at h
    simp only at h
    omega
  · rw [rowOf_one] at h ⊢
    have hl := less_iff.2 h
    have hg : mget [(i0, r)] i0 = some r := rfl
    simp [accept10, promise10, hg, hl]
theorem acc_yes {row : Rows10} {b : Ballot} {v : ByteArray} (hf : row = [] ∨ ∃ r, row = [(i0, r)]) (h0 : 0 ≤ b.r ∧ 0 ≤ b.n) (h : ¬ blt b (rowOf row).p) : accept10 1 row i0 b v = (b, true, 0, [(i0, ⟨b, ⟨true, b, v⟩⟩)]) := by
  rcases hf with rfl | ⟨r, rfl⟩
  · rw [rowOf_nil] at h
    have hl : less b noB = false := by
      rw [Bool.eq_false_iff]
      exact fun hc => h (less_iff.1 hc)
    have hg : mget ([] : Rows10) i0 = none := rfl
    have hs : mset ([] : Rows10) i0 ⟨b, noA⟩ = [(i0, ⟨b, noA⟩)] := rfl
    have hs2 : mset [(i0, (⟨b, noA⟩ : Row))] i0 ⟨b, ⟨true, b, v⟩⟩ = [(i0, ⟨b, ⟨true, b, v⟩⟩)] := rfl
    simp [accept10, promise10, hg, hl, hs, hs2, noRow]
  · rw [rowOf_one] at h
    have hl : less b r.p = false := by
      rw [Bool.eq_false_iff]
      exact fun hc => h (less_iff.1 hc)
    have hg : mget [(i0, r)] i0 = some r := rfl
    have hs : mset [(i0, r)] i0 ⟨b, r.a⟩ = [(i0, ⟨b, r.a⟩)] := rfl
    have hs2 : mset [(i0, (⟨b, r.a⟩ : Row))] i0 ⟨b, ⟨true, b, v⟩⟩ = [(i0, ⟨b, ⟨true, b, v⟩⟩)] := rfl
    simp [accept10, promise10, hg, hl, hs, hs2]
end Go.Proofs.Ytkhpikjmhamppaa
