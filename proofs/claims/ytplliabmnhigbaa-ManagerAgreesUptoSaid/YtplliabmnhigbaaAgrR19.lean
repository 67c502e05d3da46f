/- PLAIN LAW: managers that hear what was accepted agree. No program in sight. -/
import Derived.Test.YtplliabmnhigbaaAgrQ19
import Derived.Test.YtplliabmnhigbaaOrdP19
set_option linter.unusedVariables false
set_option linter.unusedSimpArgs false
namespace Go.Proofs.Ytplliabmnhigbaa
open Go.Tk
/-- more votes known, the known ones the same -/
theorem cn_more {f g inc : Nat → Int} : ∀ n, (∀ k, k < n → f k ≠ 0 → g k = f k) → cn f inc 1 n ≤ cn g inc 1 n ∧ cn g inc 1 n + cn g inc 0 n ≤ cn f inc 1 n + cn f inc 0 n
  | 0, _ => by simp [cn]
  | n + 1, h => by
    obtain ⟨h1, h2⟩ := cn_more (inc := inc) n (fun k hk => h k (by omega))
    simp only [cn]
    by_cases hi : inc n = 0
    · simp [hi]; exact ⟨h1, h2⟩
    · by_cases h0 : f n = 0
      · simp only [h0]
        by_cases v1 : g n = 1
        · simp [v1, hi]; omega
        · by_cases v0 : g n = 0
          · simp [v0, hi]; omega
          · simp [hi, v1, v0]; omega
      · rw [h n (by omega) h0]
        constructor <;> omega
theorem decide_more {f g inc : Nat → Nat → Int} {n : Nat} (hf : rowsOk f n = true) (hg : rowsOk g n = true) (h : ∀ i k, i < n → k < 4 → f i k ≠ 0 → g i k = f i k) (hd : (decide18 true n n f inc).1 ≠ 0) : (decide18 true n n g inc).1 = (decide18 true n n f inc).1 := by
  have hc : ∀ i, i < n → cn (f i) (inc i) 1 4 ≤ cn (g i) (inc i) 1 4 ∧ cn (g i) (inc i) 1 4 + cn (g i) (inc i) 0 4 ≤ cn (f i) (inc i) 1 4 + cn (f i) (inc i) 0 4 := fun i hi => cn_more 4 (fun k hk => h i k hi hk)
  rw [decide18_ok hf] at hd ⊢
  rw [decide18_ok hg]
  have hp : prep f inc n = true → prep g inc n = true := by
    rw [prep_iff, prep_iff]
    exact fun h i' hi => Nat.le_trans (h i' hi) (hc i' hi).1
  have hs : sunk f inc n = true → sunk g inc n = true ∧ prep g inc n = false := by
    intro h
    rw [sunk_iff] at h
    obtain ⟨j, hj, hlt⟩ := h
    have := hc j hj
    refine ⟨sunk_iff.2 ⟨j, hj, by omega⟩, ?_⟩
    rw [← Bool.not_eq_true, prep_iff]
    intro hall
    have := hall j hj
    omega
  cases h1 : prep f inc n
  · cases h2 : sunk f inc n
    · simp [h1, h2] at hd
    · obtain ⟨h3, h4⟩ := hs h2
      simp [h3, h4]
  · simp [hp h1]
/-- two that know of no vote different things -/
theorem decide_agree {f g inc : Nat → Nat → Int} {n : Nat} (hf : rowsOk f n = true) (hg : rowsOk g n = true) (h : ∀ i k, i < n → k < 4 → f i k ≠ 0 → g i k ≠ 0 → f i k = g i k) (hd : (decide18 true n n f inc).1 ≠ 0) (hd' : (decide18 true n n g inc).1 ≠ 0) : (decide18 true n n f inc).1 = (decide18 true n n g inc).1 := by
  let u : Nat → Nat → Int := fun i k => if f i k = 0 then g i k else f i k
  have hu : rowsOk u n = true := by
    rw [rowsOk_iff] at hf hg ⊢
    intro i k hi hk
    show 0 ≤ (if f i k = 0 then g i k else f i k) ∧ (if f i k = 0 then g i k else f i k) ≤ 2
    split
    · exact hg i k hi hk
    · exact hf i k hi hk
  have e1 := decide_more (g := u) hf hu (fun i k hi hk h0 => if_neg h0) hd
  have e2 := decide_more (g := u) hg hu (fun i k hi hk h0 => by
    show (if f i k = 0 then g i k else f i k) = g i k
    split
    · rfl
    · rename_i h1; exact h i k hi hk h1 h0) hd'
  exact e1.symm.trans e2
/-- a learner tells of what was accepted alone -/
structure Tru (l : List HdW) (i : Inst) (ln : Learn11) : Prop where
  ok : LnOk ln
  said : ∀ p ∈ ln.said, ∃ k : Nat, p.1 = (k : Int) ∧ (⟨i, k, p.2.b, p.2.v⟩ : HdW) ∈ l
  is : ln.is = true → Chose (hsOf l i) ln.chosen
theorem Chose.more {H H' : Hs} {v : ByteArray} (h : Chose H v) (hs : ∀ e ∈ H, e ∈ H') : Chose H' v := by
  obtain ⟨k1, k2, b, h1, h2, h3⟩ := h
  exact ⟨k1, k2, b, h1, hs _ h2, hs _ h3⟩
theorem hsOf_more {l l' : List HdW} (hs : ∀ e ∈ l, e ∈ l') (i : Inst) : ∀ e ∈ hsOf l i, e ∈ hsOf l' i := fun e he => by
  obtain ⟨x, hx, hy⟩ := List.mem_filterMap.1 he
  exact List.mem_filterMap.2 ⟨x, hs x hx, hy⟩
theorem Tru.more {l l' : List HdW} {i : Inst} {ln : Learn11} (h : Tru l i ln) (hs : ∀ e ∈ l, e ∈ l') : Tru l' i ln :=
  ⟨h.ok, fun p hp => by
    obtain ⟨k, h1, h2⟩ := h.said p hp
    exact ⟨k, h1, hs _ h2⟩, fun hi => (h.is hi).more (hsOf_more hs i)⟩
theorem Tru.new (l : List HdW) (i : Inst) : Tru l i (newL 3) := ⟨LnOk.zero, fun p hp => by simp [newL] at hp, fun h => by simp [newL] at h⟩
theorem said_same {s t : Said} (h : s.same t = true) : s = t := by
  obtain ⟨⟨a, b⟩, c⟩ := s
  obtain ⟨⟨a', b'⟩, c'⟩ := t
  have := of_decide_eq_true h
  simp only at this
  obtain ⟨rfl, rfl, h3⟩ := this
  have : c = c' := by
    rw [ByteArray.toList_eq, ByteArray.toList_eq] at h3
    exact ByteArray.ext (Array.toList_inj.1 h3)
  rw [this]
theorem told_two {l : List HdW} {i : Inst} {m : List (Int × Said)} {b : Ballot} {v : ByteArray} (hnd : (keysOf m).Nodup) (hm : ∀ p ∈ m, ∃ k : Nat, p.1 = (k : Int) ∧ (⟨i, k, p.2.b, p.2.v⟩ : HdW) ∈ l) (h : 2 ≤ told11 m ⟨b, v⟩) : Chose (hsOf l i) v := by
  unfold told11 at h
  obtain ⟨F, hF⟩ : ∃ F, F = m.filter (fun p => p.2.same ⟨b, v⟩) := ⟨_, rfl⟩
  rw [← hF] at h
  have hFn : (F.map (·.1)).Nodup := by
    rw [hF]
    exact List.Sublist.nodup (List.Sublist.map _ List.filter_sublist) hnd
  have hFm : ∀ p ∈ F, p ∈ m ∧ p.2 = ⟨b, v⟩ := fun p hp => by
    rw [hF, List.mem_filter] at hp
    exact ⟨hp.1, said_same hp.2⟩
  match F, h, hFn, hFm with
  | p :: q :: R, _, hFn, hFm =>
    obtain ⟨p1, p2⟩ := hFm p (by simp)
    obtain ⟨q1, q2⟩ := hFm q (by simp)
    obtain ⟨a, ha, ha2⟩ := hm p p1
    obtain ⟨c, hc, hc2⟩ := hm q q1
    rw [p2] at ha2
    rw [q2] at hc2
    refine ⟨a, c, b, fun e => ?_, mem_hsOf ha2, mem_hsOf hc2⟩
    simp only [List.map_cons, List.nodup_cons, List.mem_cons, not_or] at hFn
    exact hFn.1.1 (by rw [ha, hc, e])
  | [p], h, _, _ => simp at h
  | [], h, _, _ => simp at h
theorem Tru.accepted {l : List HdW} {i : Inst} {ln : Learn11} (h : Tru l i ln) {k : Nat} {b : Ballot} {v : ByteArray} (hm : (⟨i, k, b, v⟩ : HdW) ∈ l) : Tru l i (accepted11 ln k b v).2.2 := by
  have hok := h.ok.accepted k b v
  have hsaid : ∀ p ∈ mset ln.said (k : Int) ⟨b, v⟩, ∃ k : Nat, p.1 = (k : Int) ∧ (⟨i, k, p.2.b, p.2.v⟩ : HdW) ∈ l := fun p hp => by
    rcases mem_mset hp with hp | hp
    · exact ⟨k, by rw [hp], by rw [hp]; exact hm⟩
    · exact h.said p hp
  unfold accepted11 at hok ⊢
  split at hok
  · rename_i h1
    rw [if_pos h1]
    exact h
  · rename_i h1
    rw [if_neg h1]
    split at hok
    · rename_i h2
      rw [if_pos h2]
      exact ⟨hok, hsaid, h.is⟩
    · rename_i h2
      rw [if_neg h2]
      refine ⟨hok, hsaid, fun _ => ?_⟩
      have hn := h.ok.n
      rw [hn] at h2
      have hnd : (keysOf (mset ln.said (k : Int) (⟨b, v⟩ : Said))).Nodup := hok.nd
      have h3 : 2 ≤ told11 (mset ln.said (k : Int) ⟨b, v⟩) ⟨b, v⟩ := by omega
      exact told_two hnd hsaid h3
/-- a manager: its decision is what its learners come to, and they tell of what was accepted -/
structure Mg (l : List HdW) (id : Int) (s : List ItS) (pls : List (Inst × Learn11)) (d : Int) : Prop where
  kn : Kn id s pls d
  tru : ∀ i ln, mget pls i = some ln → Tru l i ln
theorem Mg.more {l l' : List HdW} {id : Int} {s : List ItS} {pls : List (Inst × Learn11)} {d : Int} (h : Mg l id s pls d) (hs : ∀ e ∈ l, e ∈ l') : Mg l' id s pls d := ⟨h.kn, fun i ln hl => (h.tru i ln hl).more hs⟩
theorem Mg.hear {l : List HdW} {id : Int} {s : List ItS} {pls : List (Inst × Learn11)} {d : Int} (h : Mg l id s pls d) {bucket replica : Int} {k : Nat} {b : Ballot} {v : ByteArray} (hm : (⟨⟨id, bucket, replica, 0⟩, k, b, v⟩ : HdW) ∈ l) :
    Mg l id s (hear11 true id s pls d bucket replica k b v).2.2.1 (hear11 true id s pls d bucket replica k b v).2.2.2 ∧ (d ≠ 0 → (hear11 true id s pls d bucket replica k b v).2.2.2 = d) := by
  obtain ⟨hk, hst⟩ := h.kn.hear bucket replica k b v
  refine ⟨⟨hk, ?_⟩, hst⟩
  unfold hear11
  cases hl : mget pls ⟨id, bucket, replica, 0⟩ with
  | none => exact h.tru
  | some ln =>
    have hset : ∀ i ln', mget (mset pls ⟨id, bucket, replica, 0⟩ (accepted11 ln k b v).2.2) i = some ln' → Tru l i ln' := fun i ln' hi => by
      rw [mget_mset] at hi
      by_cases e : (⟨id, bucket, replica, 0⟩ : Inst) = i
      · rw [if_pos e] at hi
        injection hi with hi
        subst e hi
        exact (h.tru _ _ hl).accepted hm
      · rw [if_neg e] at hi
        exact h.tru i ln' hi
    simp only
    split
    · exact h.tru
    · split
      · exact h.tru
      · split
        · exact hset
        · exact hset
/-- what a manager knows was chosen -/
theorem Mg.chose {l : List HdW} {id : Int} {s : List ItS} {pls : List (Inst × Learn11)} {d : Int} (h : Mg l id s pls d) {i r : Nat} (hv : VV id s pls i r ≠ 0) :
    ∃ x v, s[i]? = some x ∧ r < 4 ∧ x.inc r ≠ 0 ∧ Chose (hsOf l ⟨id, x.bucket, r, 0⟩) v ∧ VV id s pls i r = readOf v := by
  cases hx : s[i]? with
  | none => exfalso; apply hv; unfold VV; rw [hx]
  | some x =>
    unfold VV at hv ⊢
    rw [hx] at hv ⊢
    simp only at hv ⊢
    by_cases hc : r < 4 ∧ x.inc r ≠ 0
    · rw [if_pos hc] at hv ⊢
      unfold cval at hv ⊢
      cases hl : mget pls ⟨id, x.bucket, r, 0⟩ with
      | none => rw [hl] at hv; simp at hv
      | some ln =>
        rw [hl] at hv
        simp only at hv ⊢
        by_cases hi : ln.is = true
        · rw [if_pos hi]
          exact ⟨x, ln.chosen, rfl, hc.1, hc.2, (h.tru _ _ hl).is hi, rfl⟩
        · rw [if_neg hi] at hv; simp at hv
    · rw [if_neg hc] at hv; exact absurd rfl hv
/-- TWO MANAGERS AGREE -/
theorem Mg.agree {w : Wd} {n : Nat} (hw : WdOk w n) {id : Int} {s : List ItS} {pls pls' : List (Inst × Learn11)} {d d' : Int} (h : Mg w.l id s pls d) (h' : Mg w.l id s pls' d') (hd : d ≠ 0) (hd' : d' ≠ 0) : d = d' := by
  have e := h.kn.d
  have e' := h'.kn.d
  rw [decideOf_eq] at e e'
  rw [e, e']
  refine decide_agree (VV_rows id s pls s.length) (VV_rows id s pls' s.length) (fun i k _ _ h1 h2 => ?_) (e ▸ hd) (e' ▸ hd')
  obtain ⟨x, v, a1, _, _, a2, a3⟩ := h.chose h1
  obtain ⟨x', v', b1, _, _, b2, b3⟩ := h'.chose h2
  rw [a1] at b1
  injection b1 with b1
  subst b1
  rw [a3, b3, (hw.one _).one a2 b2]
/-- what is chosen is the voter's own value, or an abort -/
theorem One.own_of {own : ByteArray} {row : Nat → Option Row} {H : Hs} {round : Int} (h : One own row H round) {v : ByteArray} (c : Chose H v) (hv : v ≠ aB) : own = v := by
  obtain ⟨k1, k2, b, hne, h1, h2⟩ := c
  have e1 := h.h _ h1
  simp only at e1
  by_cases hb : b.r = 0
  · exact (e1.2.2.2.1 hb).2.symm
  · rcases h.phase with hp | ⟨x, bl, _, hx, _, _, hown⟩
    · have := e1.2.2.2.2
      rw [hp _ e1.1] at this
      exact absurd (.inl (by simp only [noB]; omega)) (of_decide_eq_false this)
    · have hvx := (hx _ h1 (by simp only; omega)).1
      simp only at hvx
      rcases hown with ho | ⟨ho, _⟩
      · rw [hvx, ho]
      · exact absurd (hvx.trans ho) hv
theorem read_one {v : ByteArray} (h : readOf v = 1) : v.toList = [112] ∧ v ≠ aB := by
  have h1 : v.toList = [112] := by
    unfold readOf at h
    split at h
    · assumption
    · split at h <;> omega
  refine ⟨h1, fun e => ?_⟩
  rw [e, ByteArray.toList_eq] at h1
  simp [aB] at h1
/-- how many of the first m voters prepared -/
def pcnt (f : Nat → ByteArray) : Nat → Nat
  | 0 => 0
  | m + 1 => pcnt f m + if (f m).toList = [112] then 1 else 0
theorem pcnt_ge {f : Nat → ByteArray} {g inc : Nat → Int} : ∀ m, (∀ k, k < m → inc k ≠ 0 → g k = 1 → (f k).toList = [112]) → cn g inc 1 m ≤ pcnt f m
  | 0, _ => by simp [cn, pcnt]
  | m + 1, h => by
    have := pcnt_ge m (fun k hk => h k (by omega))
    simp only [cn, pcnt]
    split
    · rename_i hc
      rw [if_pos (h m (by omega) hc.2 hc.1)]
      omega
    · omega
/-- COMMIT: of each item three at least prepared by their own voters -/
theorem Mg.commit {w : Wd} {n : Nat} (hw : WdOk w n) {id : Int} {s : List ItS} {pls : List (Inst × Learn11)} (h : Mg w.l id s pls 1) {i : Nat} {x : ItS} (hx : s[i]? = some x) : 3 ≤ pcnt (fun r => w.own ⟨id, x.bucket, r, 0⟩) 4 := by
  have hi : i < s.length := (List.getElem?_eq_some_iff.1 hx).1
  have e := h.kn.d
  rw [decideOf_eq, decide18_ok (VV_rows id s pls s.length)] at e
  have hp : prep (VV id s pls) (incsOf (s.map ItS.r)) s.length = true := by
    cases h1 : prep (VV id s pls) (incsOf (s.map ItS.r)) s.length
    · rw [h1] at e
      simp only [Bool.false_eq_true, if_false] at e
      split at e <;> simp at e
    · rfl
  have h3 := (prep_iff.1 hp) i hi
  refine Nat.le_trans h3 (pcnt_ge 4 (fun k hk hinc hv => ?_))
  obtain ⟨y, v, a1, _, _, a2, a3⟩ := h.chose (i := i) (r := k) (by omega)
  rw [hx] at a1
  injection a1 with a1
  subst a1
  obtain ⟨r1, r2⟩ := read_one (a3.symm.trans hv)
  show (w.own ⟨id, x.bucket, k, 0⟩).toList = [112]
  rw [(hw.one _).own_of a2 r2]
  exact r1
end Go.Proofs.Ytplliabmnhigbaa
