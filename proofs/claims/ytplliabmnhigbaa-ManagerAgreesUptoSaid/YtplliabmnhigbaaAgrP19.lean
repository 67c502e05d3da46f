/- PLAIN LAW: of one vote, by three acceptors, where a proposal is one step: ONE VALUE IS CHOSEN. No program in sight. -/
import Derived.Test.YtplliabmnhigbaaOrdQ19
set_option linter.unusedVariables false
set_option linter.unusedSimpArgs false
namespace Go.Proofs.Ytplliabmnhigbaa
open Go.Tk
def aB : ByteArray := ⟨#[97]⟩
/-- an instance at an acceptor that accepts, that promises -/
def pOf (r : Option Row) : Ballot := match r with | some x => x.p | none => noB
def aOf (r : Option Row) : Acc := match r with | some x => x.a | none => noA
def acceptI (r : Option Row) (b : Ballot) (v : ByteArray) : Option Row := if less b (pOf r) = true then r else some ⟨b, ⟨true, b, v⟩⟩
def acceptOk (r : Option Row) (b : Ballot) : Bool := !less b (pOf r)
def prepareI (r : Option Row) (b : Ballot) : Option Row := some ⟨b, aOf r⟩
/-- what was accepted: by whom, in which ballot, what -/
abbrev Hs := List (Nat × Ballot × ByteArray)
/-- which value a proposer takes: of the accepted ones that of the greatest ballot -/
def takeV (s : ByteArray × Ballot × Bool) (a : Acc) : ByteArray × Ballot × Bool := if a.is = true ∧ (s.2.2 = false ∨ less s.2.1 a.b = true) then (a.v, a.b, true) else s
def propV (a1 a2 : Acc) : ByteArray := (takeV (takeV (aB, noB, false) a1) a2).1
/-- one instance: its voter's own value, the acceptors' rows, what was accepted, how many ballots there were -/
structure One (own : ByteArray) (row : Nat → Option Row) (H : Hs) (round : Int) : Prop where
  rnd : 0 ≤ round
  ne : ∀ e ∈ H, e.2.2 ≠ ByteArray.empty
  h : ∀ e ∈ H, e.1 < 3 ∧ 0 ≤ e.2.1.r ∧ e.2.1.r ≤ round ∧ (e.2.1.r = 0 → e.2.1 = noB ∧ e.2.2 = own) ∧ less (pOf (row e.1)) e.2.1 = false
  p : ∀ k, k < 3 → 0 ≤ (pOf (row k)).r ∧ (pOf (row k)).r ≤ round ∧ ((pOf (row k)).r = 0 → pOf (row k) = noB)
  a : ∀ k, k < 3 → (aOf (row k)).is = true → (k, (aOf (row k)).b, (aOf (row k)).v) ∈ H
  z : ∀ k, k < 3 → ∀ v, (k, noB, v) ∈ H → (aOf (row k)).is = true
  phase : (∀ k, k < 3 → pOf (row k) = noB) ∨
    ∃ v bl, 0 < bl.r ∧ (∀ e ∈ H, 0 < e.2.1.r → e.2.2 = v ∧ (e.2.1.r ≤ bl.r) ∧ (e.2.1.r = bl.r → e.2.1 = bl)) ∧ (∀ k, k < 3 → (pOf (row k)).r ≤ bl.r) ∧
      (∃ o, ∀ k, k < 3 → k ≠ o → aOf (row k) = ⟨true, bl, v⟩) ∧ (v = own ∨ (v = aB ∧ ∃ o, ∀ k, k < 3 → ((k, noB, own) ∈ H ∨ pOf (row k) = noB) → k = o))
/-- two acceptors have accepted one value in one ballot -/
def Chose (H : Hs) (v : ByteArray) : Prop := ∃ k1 k2 b, k1 ≠ k2 ∧ (k1, b, v) ∈ H ∧ (k2, b, v) ∈ H
theorem One.one {own : ByteArray} {row : Nat → Option Row} {H : Hs} {round : Int} (h : One own row H round) {v v' : ByteArray} (c : Chose H v) (c' : Chose H v') : v = v' := by
  obtain ⟨k1, k2, b, hne, h1, h2⟩ := c
  obtain ⟨q1, q2, b', hne', g1, g2⟩ := c'
  have e1 := h.h _ h1
  have e2 := h.h _ h2
  have e3 := h.h _ g1
  have e4 := h.h _ g2
  simp only at e1 e2 e3 e4
  by_cases hb : b.r = 0
  · by_cases hb' : b'.r = 0
    · rw [(e1.2.2.2.1 hb).2, (e3.2.2.2.1 hb').2]
    · rcases h.phase with hp | ⟨x, bl, _, hx, _, _, hown⟩
      · have := e3.2.2.2.2
        rw [hp _ e3.1] at this
        exact absurd (.inl (by simp only [noB]; omega)) (of_decide_eq_false this)
      · have hv' := (hx _ g1 (by simp only; omega)).1
        simp only at hv'
        have hv := (e1.2.2.2.1 hb)
        rcases hown with ho | ⟨_, o, ho⟩
        · rw [hv', ho, hv.2]
        · exfalso
          rw [hv.1, hv.2] at h1 h2
          exact hne ((ho k1 e1.1 (.inl h1)).trans (ho k2 e2.1 (.inl h2)).symm)
  · rcases h.phase with hp | ⟨x, bl, _, hx, _, _, hown⟩
    · have := e1.2.2.2.2
      rw [hp _ e1.1] at this
      exact absurd (.inl (by simp only [noB]; omega)) (of_decide_eq_false this)
    · have hv := (hx _ h1 (by simp only; omega)).1
      simp only at hv
      by_cases hb' : b'.r = 0
      · have hv' := (e3.2.2.2.1 hb')
        rcases hown with ho | ⟨_, o, ho⟩
        · rw [hv, ho, hv'.2]
        · exfalso
          rw [hv'.1, hv'.2] at g1 g2
          exact hne' ((ho q1 e3.1 (.inl g1)).trans (ho q2 e4.1 (.inl g2)).symm)
      · have hv' := (hx _ g1 (by simp only; omega)).1
        simp only at hv'
        rw [hv, hv']
theorem One.zero (own : ByteArray) : One own (fun _ => none) [] 0 :=
  ⟨by omega, by simp, by simp, fun k _ => by simp [pOf, noB], fun k _ h => by simp [aOf, noA] at h, by simp, .inl (fun _ _ => rfl)⟩
def upd3 {α : Type} (f : Nat → α) (k : Nat) (x : α) : Nat → α := fun j => if j = k then x else f j
theorem less_no {b : Ballot} (h0 : 0 ≤ b.r) (hz : b.r = 0 → b = noB) (h : less noB b = false) : b = noB := by
  have := of_decide_eq_false h
  apply hz
  simp only [noB] at this
  omega
/-- the voter's value is accepted: it is the first ballot's -/
theorem One.vote {own : ByteArray} {row : Nat → Option Row} {H : Hs} {round : Int} (h : One own row H round) {k : Nat} (hk : k < 3) (hok : acceptOk (row k) noB = true) (hown : own ≠ ByteArray.empty) :
    One own (upd3 row k (acceptI (row k) noB own)) (H ++ [(k, noB, own)]) round := by
  have hno : less noB (pOf (row k)) = false := by simpa [acceptOk] using hok
  have hpk : pOf (row k) = noB := less_no (h.p k hk).1 (h.p k hk).2.2 hno
  have hacc : acceptI (row k) noB own = some ⟨noB, ⟨true, noB, own⟩⟩ := by
    unfold acceptI
    rw [if_neg (by rw [hno]; simp)]
  rw [hacc]
  have hp : ∀ j, pOf (upd3 row k (some ⟨noB, ⟨true, noB, own⟩⟩) j) = pOf (row j) := fun j => by
    unfold upd3
    split
    · rename_i e; subst e; rw [hpk]; rfl
    · rfl
  refine ⟨h.rnd, fun e he => by
      rcases List.mem_append.1 he with he | he
      · exact h.ne e he
      · simp only [List.mem_singleton] at he
        subst he
        exact hown, fun e he => ?_, fun j hj => by rw [hp]; exact h.p j hj, fun j hj ha => ?_, fun j hj v hv => ?_, ?_⟩
  · rw [hp]
    rcases List.mem_append.1 he with he | he
    · exact h.h e he
    · simp only [List.mem_singleton] at he
      subst he
      simp only
      exact ⟨hk, Int.le_refl 0, h.rnd, fun _ => ⟨trivial, trivial⟩, by rw [hpk]; rfl⟩
  · unfold upd3 at ha ⊢
    by_cases e : j = k
    · simp only [e, if_true, aOf]
      simp
    · simp only [e, if_false] at ha ⊢
      exact List.mem_append.2 (.inl (h.a j hj ha))
  · unfold upd3
    by_cases e : j = k
    · simp [e, aOf]
    · simp only [e, if_false]
      rcases List.mem_append.1 hv with hv | hv
      · exact h.z j hj v hv
      · simp only [List.mem_singleton, Prod.mk.injEq] at hv
        exact absurd hv.1 e
  · rcases h.phase with hA | ⟨v, bl, b1, b2, b3, ⟨o, b4⟩, b5⟩
    · exact .inl (fun j hj => by rw [hp]; exact hA j hj)
    · refine .inr ⟨v, bl, b1, fun e he hpos => ?_, fun j hj => by rw [hp]; exact b3 j hj, ⟨o, fun j hj hjo => ?_⟩, ?_⟩
      · rcases List.mem_append.1 he with he | he
        · exact b2 e he hpos
        · simp only [List.mem_singleton] at he
          subst he
          simp [noB] at hpos
      · unfold upd3
        by_cases e : j = k
        · exfalso
          subst e
          have h1 := b4 j hj hjo
          have h2 := h.h _ (h.a j hj (by rw [h1]))
          rw [h1, hpk] at h2
          simp only at h2
          exact absurd (.inl (by simp only [noB]; omega)) (of_decide_eq_false h2.2.2.2.2)
        · simp only [e, if_false]
          exact b4 j hj hjo
      · rcases b5 with b5 | ⟨b5, o2, b6⟩
        · exact .inl b5
        · refine .inr ⟨b5, o2, fun j hj hc => ?_⟩
          rw [hp] at hc
          rcases hc with hc | hc
          · rcases List.mem_append.1 hc with hc | hc
            · exact b6 j hj (.inl hc)
            · simp only [List.mem_singleton, Prod.mk.injEq] at hc
              rw [hc.1]
              exact b6 k hk (.inr hpk)
          · exact b6 j hj (.inr hc)
/-- a voter's own value is set before it is used -/
theorem One.own {row : Nat → Option Row} {H : Hs} {round : Int} (h : One .empty row H round) (own : ByteArray) : One own row H round := by
  have h0 : ∀ e ∈ H, 0 < e.2.1.r := fun e he => by
    have h1 := h.h e he
    have h2 := h.ne e he
    have : e.2.1.r ≠ 0 := fun h3 => h2 (h1.2.2.2.1 h3).2
    omega
  have hno : ∀ k v, (k, noB, v) ∉ H := fun k v hm => by
    have := h0 _ hm
    simp [noB] at this
  refine ⟨h.rnd, h.ne, fun e he => ?_, h.p, h.a, h.z, ?_⟩
  · obtain ⟨a, b, c, d, f⟩ := h.h e he
    exact ⟨a, b, c, fun hz => absurd (h0 e he) (by omega), f⟩
  · rcases h.phase with hA | ⟨v, bl, b1, b2, b3, ⟨o, b4⟩, b5⟩
    · exact .inl hA
    · refine .inr ⟨v, bl, b1, b2, b3, ⟨o, b4⟩, ?_⟩
      rcases b5 with b5 | ⟨b5, o2, b6⟩
      · exfalso
        have hk : ∃ k, k < 3 ∧ k ≠ o := by
          by_cases e : o = 0
          · exact ⟨1, by omega, by omega⟩
          · exact ⟨0, by omega, by omega⟩
        obtain ⟨k, hk, hko⟩ := hk
        have := h.ne _ (h.a k hk (by rw [b4 k hk hko]))
        rw [b4 k hk hko] at this
        exact this b5
      · exact .inr ⟨b5, o2, fun k hk hc => b6 k hk (hc.elim (fun hm => absurd hm (hno k own)) .inr)⟩
theorem propV_eq (a1 a2 : Acc) : propV a1 a2 = if a1.is = true then (if a2.is = true ∧ less a1.b a2.b = true then a2.v else a1.v) else if a2.is = true then a2.v else aB := by
  unfold propV takeV
  by_cases h1 : a1.is = true <;> by_cases h2 : a2.is = true <;> simp [h1, h2]
  split <;> rfl
/-- the rows after a proposal -/
def propRow (row : Nat → Option Row) (out : Nat) (b : Ballot) (v : ByteArray) : Nat → Option Row := fun k => if k < 3 ∧ k ≠ out then some ⟨b, ⟨true, b, v⟩⟩ else row k
/-- a proposal, in a ballot greater than all -/
theorem One.propose {own : ByteArray} {row : Nat → Option Row} {H : Hs} {round : Int} (h : One own row H round) {k1 k2 out : Nat} (hk1 : k1 < 3) (hk2 : k2 < 3) (h12 : k1 ≠ k2) (ho1 : k1 ≠ out) (ho2 : k2 ≠ out) (hout : out < 3) {b : Ballot} (hb : b.r = round + 1) :
    One own (propRow row out b (propV (aOf (row k1)) (aOf (row k2)))) (H ++ [(k1, b, propV (aOf (row k1)) (aOf (row k2))), (k2, b, propV (aOf (row k1)) (aOf (row k2)))]) (round + 1) := by
  have hr := h.rnd
  have key : ∃ v, propV (aOf (row k1)) (aOf (row k2)) = v ∧ v ≠ ByteArray.empty ∧ (∀ e ∈ H, 0 < e.2.1.r → e.2.2 = v) ∧ (v = own ∨ (v = aB ∧ ∃ o, ∀ k, k < 3 → ((k, noB, own) ∈ H ∨ (k = out ∧ pOf (row k) = noB)) → k = o)) := by
    refine ⟨_, rfl, ?_⟩
    rw [propV_eq]
    rcases h.phase with hA | ⟨v, bl, b1, b2, b3, ⟨o, b4⟩, b5⟩
    · have hz : ∀ e ∈ H, e.2.1 = noB ∧ e.2.2 = own := fun e he => by
        obtain ⟨c1, c2, c3, c4, c5⟩ := h.h e he
        rw [hA _ c1] at c5
        have := of_decide_eq_false c5
        simp only [noB] at this
        exact c4 (by omega)
      have hv : ∀ k, k < 3 → (aOf (row k)).is = true → (aOf (row k)).v = own ∧ (aOf (row k)).v ≠ ByteArray.empty := fun k hk ha => ⟨(hz _ (h.a k hk ha)).2, h.ne _ (h.a k hk ha)⟩
      have hpos : ∀ (e : Nat × Ballot × ByteArray) (x : ByteArray), e ∈ H → 0 < e.2.1.r → e.2.2 = x := fun e x he hp => by
        rw [(hz e he).1] at hp
        simp [noB] at hp
      by_cases a1 : (aOf (row k1)).is = true
      · rw [if_pos a1]
        split
        · rename_i a2
          exact ⟨(hv k2 hk2 a2.1).2, fun e he => hpos e _ he, .inl (hv k2 hk2 a2.1).1⟩
        · exact ⟨(hv k1 hk1 a1).2, fun e he => hpos e _ he, .inl (hv k1 hk1 a1).1⟩
      · rw [if_neg a1]
        by_cases a2 : (aOf (row k2)).is = true
        · rw [if_pos a2]
          exact ⟨(hv k2 hk2 a2).2, fun e he => hpos e _ he, .inl (hv k2 hk2 a2).1⟩
        · rw [if_neg a2]
          refine ⟨by decide, fun e he => hpos e _ he, .inr ⟨rfl, out, fun k hk hc => ?_⟩⟩
          rcases hc with hc | hc
          · by_cases e : k = out
            · exact e
            · exfalso
              have hk12 : k = k1 ∨ k = k2 := by omega
              rcases hk12 with e | e
              · subst e; exact a1 (h.z k hk own hc)
              · subst e; exact a2 (h.z k hk own hc)
          · exact hc.1
    · have hv0 : v ≠ ByteArray.empty := by
        have hk : ∃ k, k < 3 ∧ k ≠ o := by
          by_cases e : o = 0
          · exact ⟨1, by omega, by omega⟩
          · exact ⟨0, by omega, by omega⟩
        obtain ⟨k, hk, hko⟩ := hk
        have := h.ne _ (h.a k hk (by rw [b4 k hk hko]))
        rw [b4 k hk hko] at this
        exact this
      have hpick : (if (aOf (row k1)).is = true then (if (aOf (row k2)).is = true ∧ less (aOf (row k1)).b (aOf (row k2)).b = true then (aOf (row k2)).v else (aOf (row k1)).v) else if (aOf (row k2)).is = true then (aOf (row k2)).v else aB) = v := by
        have hoth : ∀ k, k < 3 → (aOf (row k)).is = true → (aOf (row k)).v = v ∨ (aOf (row k)).b = noB := fun k hk ha => by
          have hm := h.a k hk ha
          obtain ⟨c1, c2, c3, c4, c5⟩ := h.h _ hm
          by_cases hz : ((aOf (row k)).b).r = 0
          · exact .inr (c4 hz).1
          · exact .inl (b2 _ hm (by simp only at c2 ⊢; omega)).1
        by_cases e1 : k1 = o
        · have e2 := b4 k2 hk2 (by omega)
          rw [e2]
          simp only [true_and, if_true]
          by_cases a1 : (aOf (row k1)).is = true
          · rw [if_pos a1]
            split
            · rfl
            · rename_i hl
              rcases hoth k1 hk1 a1 with hx | hx
              · exact hx
              · exact absurd (by rw [hx]; exact decide_eq_true (.inl b1)) hl
          · rw [if_neg a1]
        · have e2 := b4 k1 hk1 e1
          rw [e2]
          simp only [if_true]
          split
          · rename_i hl
            rcases hoth k2 hk2 hl.1 with hx | hx
            · exact hx
            · exfalso
              rw [hx] at hl
              have := of_decide_eq_true hl.2
              simp only [noB] at this
              omega
          · rfl
      rw [hpick]
      refine ⟨hv0, fun e he hp => (b2 e he hp).1, ?_⟩
      rcases b5 with b5 | ⟨b5, o2, b6⟩
      · exact .inl b5
      · exact .inr ⟨b5, o2, fun k hk hc => b6 k hk (hc.elim .inl (fun q => .inr q.2))⟩
  obtain ⟨v, hv, hv0, hvH, hvo⟩ := key
  rw [hv]
  have hpr : ∀ k, k < 3 → k ≠ out → propRow row out b v k = some ⟨b, ⟨true, b, v⟩⟩ := fun k hk hko => if_pos ⟨hk, hko⟩
  have hpo : propRow row out b v out = row out := if_neg (fun hc => hc.2 rfl)
  have hmem : ∀ e, e ∈ H ++ [(k1, b, v), (k2, b, v)] → e ∈ H ∨ ((e.1 = k1 ∨ e.1 = k2) ∧ e.2 = (b, v)) := fun e he => by
    rcases List.mem_append.1 he with he | he
    · exact .inl he
    · simp only [List.mem_cons, List.not_mem_nil, or_false] at he
      rcases he with he | he <;> subst he <;> simp
  refine ⟨by omega, fun e he => ?_, fun e he => ?_, fun k hk => ?_, fun k hk ha => ?_, fun k hk x hx => ?_, ?_⟩
  · rcases hmem e he with he | he
    · exact h.ne e he
    · rw [he.2]; exact hv0
  · rcases hmem e he with he | ⟨he, he2⟩
    · obtain ⟨c1, c2, c3, c4, c5⟩ := h.h e he
      refine ⟨c1, c2, by omega, c4, ?_⟩
      by_cases ek : e.1 = out
      · rw [ek, hpo, ← ek]; exact c5
      · rw [hpr _ c1 ek]
        exact decide_eq_false (by simp only [pOf]; omega)
    · have hk : e.1 < 3 ∧ e.1 ≠ out := by rcases he with he | he <;> omega
      rw [hpr _ hk.1 hk.2, he2]
      refine ⟨hk.1, by simp only; omega, by simp only; omega, fun hz => absurd hz (by simp only; omega), decide_eq_false (by simp only [pOf]; omega)⟩
  · by_cases ek : k = out
    · rw [ek, hpo, ← ek]
      obtain ⟨c1, c2, c3⟩ := h.p k hk
      exact ⟨c1, by omega, c3⟩
    · rw [hpr _ hk ek]
      refine ⟨by simp only [pOf]; omega, by simp only [pOf]; omega, fun hz => absurd hz (by simp only [pOf]; omega)⟩
  · by_cases ek : k = out
    · rw [ek, hpo, ← ek] at ha ⊢
      exact List.mem_append.2 (.inl (h.a k hk ha))
    · rw [hpr _ hk ek]
      have hk12 : k = k1 ∨ k = k2 := by omega
      rcases hk12 with e | e <;> subst e <;> simp [aOf]
  · have hin : (k, noB, x) ∈ H := by
      rcases hmem _ hx with hx | hx
      · exact hx
      · exfalso
        have := congrArg (fun q => q.1.r) hx.2
        simp only [noB] at this
        omega
    by_cases ek : k = out
    · rw [ek, hpo, ← ek]; exact h.z k hk x hin
    · rw [hpr _ hk ek]; rfl
  · refine .inr ⟨v, b, by omega, fun e he hp => ?_, fun k hk => ?_, ⟨out, fun k hk hko => by rw [hpr _ hk hko]; rfl⟩, ?_⟩
    · rcases hmem e he with he | ⟨he, he2⟩
      · have c := h.h e he
        exact ⟨hvH e he hp, by omega, fun hc => absurd hc (by omega)⟩
      · rw [he2]; exact ⟨rfl, Int.le_refl _, fun _ => rfl⟩
    · by_cases ek : k = out
      · rw [ek, hpo, ← ek]
        have := h.p k hk
        omega
      · rw [hpr _ hk ek]; exact Int.le_refl _
    · rcases hvo with hvo | ⟨hvo, o, hz⟩
      · exact .inl hvo
      · refine .inr ⟨hvo, o, fun k hk hc => hz k hk ?_⟩
        rcases hc with hc | hc
        · rcases hmem _ hc with hc | hc
          · exact .inl hc
          · exfalso
            have := congrArg (fun q => q.1.r) hc.2
            simp only [noB] at this
            omega
        · by_cases ek : k = out
          · rw [ek, hpo, ← ek] at hc; exact .inr ⟨ek, hc⟩
          · rw [hpr _ hk ek] at hc
            exfalso
            have := congrArg (fun q => q.r) hc
            simp only [pOf, noB] at this
            omega
/-- the rows are taken as they are at the three -/
theorem One.rows {own : ByteArray} {row row' : Nat → Option Row} {H : Hs} {round : Int} (h : One own row H round) (he : ∀ k, k < 3 → row' k = row k) : One own row' H round := by
  refine ⟨h.rnd, h.ne, fun e hm => ?_, fun k hk => by rw [he k hk]; exact h.p k hk, fun k hk ha => by rw [he k hk] at ha ⊢; exact h.a k hk ha, fun k hk v hv => by rw [he k hk]; exact h.z k hk v hv, ?_⟩
  · obtain ⟨c1, c2, c3, c4, c5⟩ := h.h e hm
    exact ⟨c1, c2, c3, c4, by rw [he _ c1]; exact c5⟩
  · rcases h.phase with hA | ⟨v, bl, b1, b2, b3, ⟨o, b4⟩, b5⟩
    · exact .inl (fun k hk => by rw [he k hk]; exact hA k hk)
    · refine .inr ⟨v, bl, b1, b2, fun k hk => by rw [he k hk]; exact b3 k hk, ⟨o, fun k hk hko => by rw [he k hk]; exact b4 k hk hko⟩, ?_⟩
      rcases b5 with b5 | ⟨b5, o2, b6⟩
      · exact .inl b5
      · exact .inr ⟨b5, o2, fun k hk hc => b6 k hk (by rw [he k hk] at hc; exact hc)⟩
/-- another vote's ballot -/
theorem One.later {own : ByteArray} {row : Nat → Option Row} {H : Hs} {round : Int} (h : One own row H round) : One own row H (round + 1) := by
  refine ⟨by have := h.rnd; omega, h.ne, fun e hm => ?_, fun k hk => ?_, h.a, h.z, h.phase⟩
  · obtain ⟨c1, c2, c3, c4, c5⟩ := h.h e hm
    exact ⟨c1, c2, by omega, c4, c5⟩
  · obtain ⟨c1, c2, c3⟩ := h.p k hk
    exact ⟨c1, by omega, c3⟩
end Go.Proofs.Ytplliabmnhigbaa
