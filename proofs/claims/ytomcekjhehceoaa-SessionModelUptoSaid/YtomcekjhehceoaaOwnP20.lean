/- PLAIN: a session sees what it wrote. -/
import Derived.Test.YtomcekjhehceoaaSesQ20
import Derived.Test.YtomcekjhehceoaaSesS20
set_option linter.unusedVariables false
set_option linter.unusedSimpArgs false
namespace Go.Proofs.Ytomcekjhehceoaa
open Go.RowKit Go.Tk
theorem setNow_has (ps : List LogP) (b c : Int) (l : List En) : hasP (setNow ps b l) c = hasP ps c := by
  unfold hasP setNow
  rw [List.any_map]
  congr 1
  funext p
  simp only [Function.comp]
  split <;> rfl
theorem setNow_code (ps : List LogP) (b : Int) (l : List En) (k v : ByteArray) : codeP false (setNow ps b l) k v = codeP false ps k v := by
  unfold codeP
  rw [setNow_has]
theorem setNow_now (ps : List LogP) (b c : Int) (l : List En) (hb : hasP ps b = true) : nowP (setNow ps b l) c = if c = b then l else nowP ps c := by
  unfold nowP setNow hasP at *
  induction ps with
  | nil => simp at hb
  | cons p ps ih =>
    by_cases hp : p.bucket = b
    · subst hp
      by_cases hc : c = p.bucket
      · subst hc
        simp
      · have h1 : ¬ p.bucket = c := fun e => hc e.symm
        simp only [List.map_cons, if_true, hc, if_false]
        rw [List.find?_cons_of_neg (by simp [h1]), List.find?_cons_of_neg (by simp [h1])]
        by_cases h2 : ps.any (fun q => decide (q.bucket = p.bucket)) = true
        · rw [ih h2, if_neg hc]
        · have h3 : ps.map (fun q => if q.bucket = p.bucket then { q with now := l } else q) = ps := by
            conv => rhs; rw [← List.map_id ps]
            apply List.map_congr_left
            intro q hq
            rw [if_neg]
            · rfl
            · intro e
              apply h2
              rw [List.any_eq_true]
              exact ⟨q, hq, by simpa using e⟩
          rw [h3]
    · have hb2 : ps.any (fun q => decide (q.bucket = b)) = true := by
        rw [List.any_cons] at hb
        simpa [hp] using hb
      simp only [List.map_cons, if_neg hp]
      by_cases hc : p.bucket = c
      · subst hc
        rw [if_neg hp]
        simp
      · rw [List.find?_cons_of_neg (by simp [hc]), List.find?_cons_of_neg (by simp [hc])]
        exact ih hb2
/-- what a session tells of a key, by what a key has -/
theorem got_look {ps : List LogP} (h : PsOk ps) (k : ByteArray) : gotP false ps k = if codeP false ps k .empty = 0 then (match Tk.look k (nowP ps (bucketOf k)) with | some v => (v, true) | none => (.empty, false)) else (.empty, false) := by
  unfold gotP
  by_cases hc : codeP false ps k .empty = 0
  · have hh := (codeP_zero hc).2.2.2
    have hr := (entsOk_parts (now_ok h _ hh)).2.1
    rw [if_pos hc, look_rising hr]
    cases hk : isK k (nowP ps (bucketOf k)) <;> simp [hc]
  · rw [if_neg hc, if_neg (fun x => hc x.1)]
theorem put_code {ps : List LogP} {k v : ByteArray} (h : (putS false ps k v).1 = 0) : codeP false ps k v = 0 ∧ codeP false ps k .empty = 0 ∧ (putS false ps k v).2 = setNow ps (bucketOf k) (putK k v (nowP ps (bucketOf k))) := by
  unfold putS at *
  by_cases hc : codeP false ps k v = 0
  · rw [if_pos hc] at h ⊢
    by_cases hf : isK k (nowP ps (bucketOf k)) = false ∧ 8 ≤ (nowP ps (bucketOf k)).length
    · rw [if_pos hf] at h; simp at h
    · rw [if_neg hf]
      obtain ⟨_, h1, h2, h3⟩ := codeP_zero hc
      refine ⟨hc, ?_, rfl⟩
      have hv : mayValue .empty = true := by kernel_rfl
      unfold codeP
      simp [h1, h3, hv]
  · rw [if_neg hc] at h
    exact absurd h hc
theorem put_no {ps : List LogP} {k v : ByteArray} (h : (putS false ps k v).1 ≠ 0) : (putS false ps k v).2 = ps := by
  unfold putS at *
  split
  · rename_i hc
    rw [if_pos hc] at h
    split
    · rfl
    · rename_i hf
      rw [if_neg hf] at h
      exact absurd rfl h
  · rfl
theorem own1 {ps : List LogP} (h : PsOk ps) {k v : ByteArray} (hp : (putS false ps k v).1 = 0) : gotP false (putS false ps k v).2 k = (v, true) ∧ codeP false (putS false ps k v).2 k .empty = 0 := by
  have hok := h.put false k v
  obtain ⟨h1, h2, h3⟩ := put_code hp
  have hh := (codeP_zero h1).2.2.2
  rw [got_look hok, h3, setNow_code, if_pos h2, setNow_now _ _ _ _ hh, if_pos rfl, look_putK (entsOk_parts (now_ok h _ hh)).2.1, if_pos rfl]
  exact ⟨rfl, h2⟩
theorem flt_one {k v : ByteArray} {l : List En} (hr : Rising l) : fltR k k (putK k v l) = [(k, v)] := by
  unfold fltR
  rw [putK_split, List.filter_append, List.filter_cons]
  have h1 : (l.take (lbK k l)).filter (inR k k) = [] := by
    rw [List.filter_eq_nil_iff]
    intro e he
    have := take_lo he
    simp [inR, this]
  have h2 : (if isK k l = true then l.drop (lbK k l + 1) else l.drop (lbK k l)).filter (inR k k) = [] := by
    rw [List.filter_eq_nil_iff]
    intro e he
    have := rest_hi hr he
    simp [inR, this]
  have h3 : inR k k (k, v) = true := by simp [inR, ltK_irrefl]
  rw [h1, h2, if_pos h3]
  rfl
theorem own2 {ps : List LogP} (h : PsOk ps) {k v : ByteArray} (hp : (putS false ps k v).1 = 0) : codeScan false (putS false ps k v).2 k k = 0 ∧ scanS false (putS false ps k v).2 k k = [(k, v)] := by
  obtain ⟨h1, h2, h3⟩ := put_code hp
  obtain ⟨_, hk, _, hh⟩ := codeP_zero h1
  have hc : codeScan false (putS false ps k v).2 k k = 0 := by
    unfold codeScan
    rw [h3]
    simp only [Bool.false_eq_true, if_false, hk, ltK_irrefl, Bool.true_eq_false, or_self]
    rw [show bucketOf k + 1 - bucketOf k = 1 by omega]
    simp [hasN, setNow_has, hh]
  refine ⟨hc, ?_⟩
  unfold scanS scanP
  rw [if_pos hc, h3, show bucketOf k + 1 - bucketOf k = 1 by omega]
  simp only [scanN, List.nil_append, Nat.add_zero]
  rw [setNow_now _ _ _ _ hh, if_pos rfl, flt_one (entsOk_parts (now_ok h _ hh)).2.1]
theorem own3 {ps : List LogP} (h : PsOk ps) {k v : ByteArray} (hp : (putS false ps k v).1 = 0) : (delS false (putS false ps k v).2 k).1 = true ∧ (delS false (putS false ps k v).2 k).2 = setNow (putS false ps k v).2 (bucketOf k) (delK k (putK k v (nowP ps (bucketOf k)))) := by
  obtain ⟨h1, h2, h3⟩ := put_code hp
  have hh := (codeP_zero h1).2.2.2
  have hr := (entsOk_parts (now_ok h _ hh)).2.1
  have hn : nowP (putS false ps k v).2 (bucketOf k) = putK k v (nowP ps (bucketOf k)) := by rw [h3, setNow_now _ _ _ _ hh, if_pos rfl]
  have hi : isK k (putK k v (nowP ps (bucketOf k))) = true := by
    have := look_putK (k := k) (v := v) (j := k) hr
    rw [if_pos rfl, look_rising hr.putK] at this
    cases hx : isK k (putK k v (nowP ps (bucketOf k))) with
    | true => rfl
    | false => rw [hx] at this; simp at this
  unfold delS
  rw [hn, if_pos ⟨(own1 h hp).2, hi⟩]
  exact ⟨rfl, rfl⟩
theorem own_hasP {ps : List LogP} {k v : ByteArray} (hp : (putS false ps k v).1 = 0) (c : Int) : hasP (putS false ps k v).2 c = hasP ps c := by rw [(put_code hp).2.2, setNow_has]
theorem own4 {ps : List LogP} (h : PsOk ps) {k v : ByteArray} (hp : (putS false ps k v).1 = 0) : gotP false (delS false (putS false ps k v).2 k).2 k = (.empty, false) ∧ codeP false (delS false (putS false ps k v).2 k).2 k .empty = 0 := by
  obtain ⟨h1, h2, h3⟩ := put_code hp
  have hh := (codeP_zero h1).2.2.2
  have hr := (entsOk_parts (now_ok h _ hh)).2.1
  have hok := (h.put false k v).del false k
  rw [got_look hok, (own3 h hp).2, setNow_code, if_pos (own1 h hp).2, setNow_now _ _ _ _ (by rw [own_hasP hp]; exact hh), if_pos rfl, look_delK hr.putK, if_pos rfl]
  exact ⟨rfl, (own1 h hp).2⟩
theorem own5 {ps : List LogP} (h : PsOk ps) {k v j : ByteArray} (hp : (putS false ps k v).1 = 0) (hj : k ≠ j) : gotP false (delS false (putS false ps k v).2 k).2 j = gotP false ps j ∧ codeP false (delS false (putS false ps k v).2 k).2 j .empty = codeP false ps j .empty := by
  obtain ⟨h1, h2, h3⟩ := put_code hp
  have hh := (codeP_zero h1).2.2.2
  have hr := (entsOk_parts (now_ok h _ hh)).2.1
  have hok := (h.put false k v).del false k
  have hcode : codeP false (delS false (putS false ps k v).2 k).2 j .empty = codeP false ps j .empty := by
    rw [(own3 h hp).2, setNow_code, h3, setNow_code]
  refine ⟨?_, hcode⟩
  rw [got_look hok, got_look h, hcode]
  have hn : Tk.look j (nowP (delS false (putS false ps k v).2 k).2 (bucketOf j)) = Tk.look j (nowP ps (bucketOf j)) := by
    rw [(own3 h hp).2, setNow_now _ _ _ _ (by rw [own_hasP hp]; exact hh)]
    by_cases hb : (bucketOf j : Int) = bucketOf k
    · rw [if_pos hb, look_delK hr.putK, if_neg hj, look_putK hr, if_neg hj, hb]
    · rw [if_neg hb, h3, setNow_now _ _ _ _ hh, if_neg hb]
  rw [hn]
end Go.Proofs.Ytomcekjhehceoaa
