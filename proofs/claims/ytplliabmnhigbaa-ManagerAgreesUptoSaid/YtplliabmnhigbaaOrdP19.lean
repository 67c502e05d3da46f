/- PLAIN LAW: what a manager that hears comes to. No program in sight. -/
import Derived.Test.YtplliabmnhigbaaAlive19
import Derived.Test.YtplliabmnhigbaaSurePlain
set_option linter.unusedVariables false
set_option linter.unusedSimpArgs false
namespace Go.Proofs.Ytplliabmnhigbaa
open Go.Tk
def zrow : Nat → Int := fun _ => 0
def cval (pls : List (Inst × Learn11)) (i : Inst) : Option Int := match mget pls i with
  | some l => if l.is = true then some (readOf l.chosen) else none
  | none => none
theorem voteStep_at (pls : List (Inst × Learn11)) (rows : List (Nat → Int)) (k m : Nat) (i : Inst) (hk : k < rows.length) (j r : Nat) :
    (voteStep pls rows ⟨k, m, i⟩).getD j zrow r = if j = k ∧ r = m then (cval pls i).getD (rows.getD j zrow r) else rows.getD j zrow r := by
  unfold voteStep cval
  simp only
  cases hg : mget pls i with
  | none => simp
  | some l =>
    simp only
    by_cases hl : l.is = true
    · rw [if_pos hl, if_pos hl, List.getD_eq_getElem?_getD, List.getElem?_set]
      by_cases hj : k = j
      · subst hj
        rw [if_pos rfl, if_pos hk]
        simp only [Option.getD_some, true_and, rowSet]
        by_cases hr : r = m
        · rw [if_pos hr, if_pos hr]
        · rw [if_neg hr, if_neg hr]; rfl
      · rw [if_neg hj, if_neg (fun h => hj h.1.symm), ← List.getD_eq_getElem?_getD]
    · rw [if_neg hl, if_neg hl]; simp
theorem foldAt (pls : List (Inst × Learn11)) (id : Int) (k : Nat) (x : ItS) (rows : List (Nat → Int)) (hk : k < rows.length) : ∀ m, ((visitsAt id k x m).foldl (voteStep pls) rows).length = rows.length ∧ ∀ j r, ((visitsAt id k x m).foldl (voteStep pls) rows).getD j zrow r = if j = k ∧ r < m ∧ x.inc r ≠ 0 then (cval pls ⟨id, x.bucket, r, 0⟩).getD (rows.getD j zrow r) else rows.getD j zrow r
  | 0 => by simp [visitsAt]
  | m + 1 => by
    obtain ⟨h1, h2⟩ := foldAt pls id k x rows hk m
    rw [visitsAt_succ, List.foldl_append]
    by_cases hm : x.inc m = 0
    · rw [if_pos hm]
      refine ⟨h1, fun j r => ?_⟩
      rw [List.foldl_nil, h2]
      by_cases hc : j = k ∧ r < m ∧ x.inc r ≠ 0
      · rw [if_pos hc, if_pos ⟨hc.1, by omega, hc.2.2⟩]
      · rw [if_neg hc, if_neg (fun h => hc ⟨h.1, by
          have : r ≠ m := fun e => h.2.2 (e ▸ hm)
          omega, h.2.2⟩)]
    · rw [if_neg hm]
      simp only [List.foldl_cons, List.foldl_nil]
      refine ⟨by rw [voteStep_len]; exact h1, fun j r => ?_⟩
      rw [voteStep_at _ _ _ _ _ (by rw [h1]; exact hk), h2]
      by_cases hc : j = k ∧ r = m
      · rw [if_pos hc, if_neg (by omega), if_pos ⟨hc.1, by omega, by rw [hc.2]; exact hm⟩, hc.2]
      · rw [if_neg hc]
        by_cases hc2 : j = k ∧ r < m ∧ x.inc r ≠ 0
        · rw [if_pos hc2, if_pos ⟨hc2.1, by omega, hc2.2.2⟩]
        · rw [if_neg hc2, if_neg (fun h => hc2 ⟨h.1, by
            have : r ≠ m := fun e => hc ⟨h.1, e⟩
            omega, h.2.2⟩)]
/-- the votes that are chosen -/
def VV (id : Int) (s : List ItS) (pls : List (Inst × Learn11)) (i r : Nat) : Int := match s[i]? with
  | some x => if r < 4 ∧ x.inc r ≠ 0 then (cval pls ⟨id, x.bucket, r, 0⟩).getD 0 else 0
  | none => 0
theorem foldTo (pls : List (Inst × Learn11)) (id : Int) (s : List ItS) : ∀ m, m ≤ s.length → ((visitsTo id s m).foldl (voteStep pls) (List.replicate s.length zrow)).length = s.length ∧ ∀ j r, ((visitsTo id s m).foldl (voteStep pls) (List.replicate s.length zrow)).getD j zrow r = if j < m then VV id s pls j r else 0
  | 0, _ => by
    refine ⟨by simp [visitsTo], fun j r => ?_⟩
    simp only [visitsTo, List.range_zero, List.filterMap_nil, List.flatten_nil, List.foldl_nil, List.getD_eq_getElem?_getD, List.getElem?_replicate, Nat.not_lt_zero, if_false]
    split <;> rfl
  | m + 1, hm => by
    obtain ⟨h1, h2⟩ := foldTo pls id s m (by omega)
    have hx : s[m]? = some s[m] := List.getElem?_eq_getElem (by omega)
    rw [visitsTo_succ id s hx, List.foldl_append]
    obtain ⟨g1, g2⟩ := foldAt pls id m s[m] ((visitsTo id s m).foldl (voteStep pls) (List.replicate s.length zrow)) (by rw [h1]; omega) 4
    refine ⟨g1.trans h1, fun j r => ?_⟩
    rw [g2, h2]
    by_cases hj : j = m
    · subst hj
      rw [if_neg (Nat.lt_irrefl _), if_pos (Nat.lt_succ_self _)]
      simp only [VV, hx, true_and]
    · rw [if_neg (fun h => hj h.1)]
      by_cases hlt : j < m
      · rw [if_pos hlt, if_pos (by omega)]
      · rw [if_neg hlt, if_neg (by omega)]
theorem votes_VV (pls : List (Inst × Learn11)) (id : Int) (s : List ItS) : (fun i => (votesAfter pls s.length (visits id s)).getD i (fun _ => 0)) = VV id s pls := by
  funext i r
  have := (foldTo pls id s s.length (Nat.le_refl _)).2 i r
  unfold votesAfter visits
  rw [show (fun _ => 0 : Nat → Int) = zrow from rfl, this]
  by_cases h : i < s.length
  · rw [if_pos h]
  · rw [if_neg h]
    simp [VV, List.getElem?_eq_none (Nat.le_of_not_lt h)]
theorem decideOf_eq (right : Bool) (id : Int) (s : List ItS) (pls : List (Inst × Learn11)) : decideOf right id s pls = (decide18 right s.length s.length (VV id s pls) (incsOf (s.map ItS.r))).1 := by
  unfold decideOf
  rw [votes_VV]
theorem readOf_range (v : ByteArray) : 0 ≤ readOf v ∧ readOf v ≤ 2 := by unfold readOf; split <;> (try split) <;> omega
theorem VV_range (id : Int) (s : List ItS) (pls : List (Inst × Learn11)) (i r : Nat) : 0 ≤ VV id s pls i r ∧ VV id s pls i r ≤ 2 := by
  unfold VV
  split
  · split
    · unfold cval
      split
      · split
        · exact readOf_range _
        · simp
      · simp
    · omega
  · omega
theorem VV_rows (id : Int) (s : List ItS) (pls : List (Inst × Learn11)) (n : Nat) : rowsOk (VV id s pls) n = true := rowsOk_iff.2 (fun i k _ _ => VV_range id s pls i k)
/-- what the votes come to hangs on those that count alone -/
theorem cn_count {f g inc : Nat → Int} {v : Int} : ∀ n, (∀ k, k < n → inc k ≠ 0 → f k = g k) → cn f inc v n = cn g inc v n
  | 0, _ => rfl
  | n + 1, h => by
    simp only [cn]
    rw [cn_count n (fun k hk => h k (by omega))]
    by_cases hi : inc n = 0
    · simp [hi]
    · rw [h n (by omega) hi]
theorem decide_count {f g fi : Nat → Nat → Int} {n : Nat} (hf : rowsOk f n = true) (hg : rowsOk g n = true) (h : ∀ i k, i < n → k < 4 → fi i k ≠ 0 → f i k = g i k) : decide18 true n n f fi = decide18 true n n g fi := by
  rw [decide18_ok hf, decide18_ok hg]
  have hc : ∀ v i, i < n → cn (f i) (fi i) v 4 = cn (g i) (fi i) v 4 := fun v i hi => cn_count 4 (fun k hk hinc => h i k hi hk hinc)
  have hp : prep f fi n = prep g fi n := by
    rw [Bool.eq_iff_iff, prep_iff, prep_iff]
    exact ⟨fun q i hi => by rw [← hc 1 i hi]; exact q i hi, fun q i hi => by rw [hc 1 i hi]; exact q i hi⟩
  have hs : sunk f fi n = sunk g fi n := by
    rw [Bool.eq_iff_iff, sunk_iff, sunk_iff]
    exact ⟨fun ⟨i, hi, q⟩ => ⟨i, hi, by rw [← hc 1 i hi, ← hc 0 i hi]; exact q⟩, fun ⟨i, hi, q⟩ => ⟨i, hi, by rw [hc 1 i hi, hc 0 i hi]; exact q⟩⟩
  rw [hp, hs]
theorem incs_at {s : List ItS} {i : Nat} {x : ItS} (hx : s[i]? = some x) : incsOf (s.map ItS.r) i = x.inc := by
  simp [incsOf, hx, ItS.r]
/-- a learner is changed, and chooses nothing new -/
theorem VV_keep {id : Int} {s : List ItS} {pls : List (Inst × Learn11)} {i : Inst} {l l' : Learn11} (hl : mget pls i = some l) (his : l'.is = l.is) (hch : l'.chosen = l.chosen) : VV id s (mset pls i l') = VV id s pls := by
  funext j r
  unfold VV
  cases hx : s[j]? with
  | none => rfl
  | some x =>
    simp only
    have : cval (mset pls i l') ⟨id, x.bucket, r, 0⟩ = cval pls ⟨id, x.bucket, r, 0⟩ := by
      unfold cval
      rw [mget_mset]
      by_cases h : i = ⟨id, x.bucket, (r : Int), 0⟩
      · rw [if_pos h, ← h, hl]
        simp only [his, hch]
      · rw [if_neg h]
    rw [this]
/-- a learner chooses -/
theorem VV_set {id : Int} {s : List ItS} {pls : List (Inst × Learn11)} (hnd : (s.map (·.bucket)).Nodup) {k r : Nat} {x : ItS} (hx : s[k]? = some x) (hr : r < 4) (hinc : x.inc r ≠ 0) {l' : Learn11} (his : l'.is = true) : VV id s (mset pls ⟨id, x.bucket, r, 0⟩ l') = setV (VV id s pls) k r (readOf l'.chosen) := by
  funext j q
  unfold setV
  by_cases hc : j = k ∧ q = r
  · rw [if_pos hc, hc.1, hc.2]
    unfold VV cval
    rw [hx]
    simp only
    rw [if_pos ⟨hr, hinc⟩, mget_mset, if_pos rfl]
    simp [his]
  · rw [if_neg hc]
    unfold VV
    cases hy : s[j]? with
    | none => rfl
    | some y =>
      simp only
      have hne : (⟨id, x.bucket, (r : Int), 0⟩ : Inst) ≠ ⟨id, y.bucket, (q : Int), 0⟩ := by
        intro e
        injection e with _ e1 e2 _
        apply hc
        have h1 : (s.map (·.bucket))[k]? = some x.bucket := by rw [List.getElem?_map, hx]; rfl
        have h2 : (s.map (·.bucket))[j]? = some x.bucket := by rw [List.getElem?_map, hy, e1]; rfl
        have := (List.getElem?_inj (by have := (List.getElem?_eq_some_iff.1 h2).1; exact this) hnd).1 (h2.trans h1.symm)
        exact ⟨this, by omega⟩
      have : cval (mset pls ⟨id, x.bucket, (r : Int), 0⟩ l') ⟨id, y.bucket, (q : Int), 0⟩ = cval pls ⟨id, y.bucket, (q : Int), 0⟩ := by
        unfold cval
        rw [mget_mset, if_neg hne]
      rw [this]
theorem VV_zero {id : Int} {s : List ItS} {pls : List (Inst × Learn11)} {k r : Nat} {x : ItS} (hx : s[k]? = some x) {l : Learn11} (hl : mget pls ⟨id, x.bucket, r, 0⟩ = some l) (his : l.is = false) : VV id s pls k r = 0 := by
  unfold VV cval
  rw [hx]
  simp only [hl, his]
  simp
/-! ### a manager hears of one voter alone, of each vote -/
/-- the decision is what the votes come to -/
structure Kn (id : Int) (s : List ItS) (pls : List (Inst × Learn11)) (d : Int) : Prop where
  nd : (s.map (·.bucket)).Nodup
  has : ∀ (k r : Nat) x, s[k]? = some x → r < 4 → x.inc r ≠ 0 → (mget pls ⟨id, x.bucket, r, 0⟩).isSome = true
  only : ∀ (i : Inst), (mget pls i).isSome = true → ∃ (k r : Nat) (x : ItS), s[k]? = some x ∧ r < 4 ∧ x.inc r ≠ 0 ∧ i = ⟨id, x.bucket, r, 0⟩
  ok : ∀ i l, mget pls i = some l → LnOk l
  d : d = decideOf true id s pls
/-- WHATEVER IS HEARD, the decision stays what the chosen votes come to -/
theorem Kn.hear {id : Int} {s : List ItS} {pls : List (Inst × Learn11)} {d : Int} (h : Kn id s pls d) (bucket replica f : Int) (b : Ballot) (v : ByteArray) :
    Kn id s (hear11 true id s pls d bucket replica f b v).2.2.1 (hear11 true id s pls d bucket replica f b v).2.2.2 ∧ (d ≠ 0 → (hear11 true id s pls d bucket replica f b v).2.2.2 = d) := by
  unfold hear11
  cases hl : mget pls ⟨id, bucket, replica, 0⟩ with
  | none => exact ⟨h, fun _ => rfl⟩
  | some l =>
    simp only
    by_cases hv : readOf v = 0
    · rw [if_pos hv]; exact ⟨h, fun _ => rfl⟩
    rw [if_neg hv]
    by_cases hf : f < 0 ∨ 3 ≤ f
    · rw [if_pos hf]; exact ⟨h, fun _ => rfl⟩
    rw [if_neg hf]
    obtain ⟨k, r, x, hx, hr, hinc, hi⟩ := h.only _ (by rw [hl]; rfl)
    injection hi with _ hb hrr _
    subst hb hrr
    have hok := (h.ok _ _ hl).accepted f b v
    have hkeep : ∀ d', d' = decideOf true id s (mset pls ⟨id, x.bucket, r, 0⟩ (accepted11 l f b v).2.2) → Kn id s (mset pls ⟨id, x.bucket, r, 0⟩ (accepted11 l f b v).2.2) d' := fun d' hd' =>
      ⟨h.nd, fun k' r' x' hx' hr' hi' => by
        rw [mget_mset]
        split
        · rfl
        · exact h.has k' r' x' hx' hr' hi', fun i hi' => by
        rw [mget_mset] at hi'
        by_cases e : (⟨id, x.bucket, (r : Int), 0⟩ : Inst) = i
        · exact ⟨k, r, x, hx, hr, hinc, e.symm⟩
        · rw [if_neg e] at hi'
          exact h.only i hi', fun i l' hl' => by
        rw [mget_mset] at hl'
        by_cases e : (⟨id, x.bucket, (r : Int), 0⟩ : Inst) = i
        · rw [if_pos e] at hl'
          injection hl' with hl'
          rw [← hl']; exact hok
        · rw [if_neg e] at hl'
          exact h.ok i l' hl', hd'⟩
    -- what accepting comes to
    have hacc : ((accepted11 l f b v).2.1 = false ∧ (accepted11 l f b v).2.2.is = l.is ∧ (accepted11 l f b v).2.2.chosen = l.chosen) ∨ ((accepted11 l f b v).2.1 = true ∧ l.is = false ∧ (accepted11 l f b v).2.2.is = true ∧ (accepted11 l f b v).2.2.chosen = v) := by
      unfold accepted11
      split
      · exact .inl ⟨rfl, rfl, rfl⟩
      · rename_i hc
        simp only [not_or] at hc
        split
        · exact .inl ⟨rfl, rfl, rfl⟩
        · exact .inr ⟨rfl, by simpa using hc.1, rfl, rfl⟩
    rcases hacc with ⟨h1, h2, h3⟩ | ⟨h1, h2, h3, h4⟩
    · rw [if_pos (.inl h1)]
      refine ⟨hkeep d ?_, fun _ => rfl⟩
      rw [h.d, decideOf_eq, decideOf_eq, VV_keep hl h2 h3]
    · have hV := VV_set (id := id) (pls := pls) h.nd hx hr hinc h3
      have hz := VV_zero (s := s) (r := r) hx hl h2
      have hst := stays (g := incsOf (s.map ItS.r)) (VV_rows id s pls s.length) hz (readOf_range (accepted11 l f b v).2.2.chosen)
      rw [← hV] at hst
      by_cases hd : d = 0
      · rw [if_neg (by simp [h1, hd])]
        exact ⟨hkeep _ rfl, fun hn => absurd hd hn⟩
      · rw [if_pos (.inr hd)]
        refine ⟨hkeep d ?_, fun _ => rfl⟩
        have e1 := h.d
        rw [decideOf_eq] at e1 ⊢
        rcases hst.2 with h0 | h0
        · exact absurd (e1.trans h0) hd
        · rw [e1, h0]
end Go.Proofs.Ytplliabmnhigbaa
