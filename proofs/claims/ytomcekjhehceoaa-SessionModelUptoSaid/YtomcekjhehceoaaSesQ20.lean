/- PLAIN: what a session's log keeps to, whatever is learnt, put, taken away. -/
import Derived.Test.YtomcekjhehceoaaAlive20
set_option linter.unusedVariables false
set_option linter.unusedSimpArgs false
namespace Go.Proofs.Ytomcekjhehceoaa
open Go.RowKit Go.Tk
theorem okAt_cons {bk : Int} {l : List En} {k : Nat} {x : En} (hx : l[k]? = some x) (h : okAt bk l k = true) : mayKey x.1 = true ∧ mayValue x.2 = true ∧ (bucketOf x.1 : Int) = bk ∧ ∀ j p, k = j + 1 → l[j]? = some p → ltK p.1 x.1 = true := by
  unfold okAt at h
  rw [hx] at h
  simp only [Bool.and_eq_true, decide_eq_true_eq] at h
  obtain ⟨⟨⟨h1, h2⟩, h3⟩, h4⟩ := h
  refine ⟨h1, h2, h3, fun j p hk hp => ?_⟩
  subst hk
  simp only [hp] at h4
  exact h4
theorem entsOk_parts {bk : Int} {l : List En} (h : entsOk bk l = true) : l.length ≤ 8 ∧ Rising l ∧ ∀ e ∈ l, mayKey e.1 = true ∧ mayValue e.2 = true ∧ (bucketOf e.1 : Int) = bk := by
  unfold entsOk at h
  simp only [Bool.and_eq_true, decide_eq_true_eq, List.all_eq_true, List.mem_range] at h
  obtain ⟨h8, hall⟩ := h
  have hat : ∀ k x, l[k]? = some x → okAt bk l k = true := fun k x hx => hall k (List.getElem?_eq_some_iff.1 hx).1
  refine ⟨h8, ?_, fun e he => ?_⟩
  · have step : ∀ d j x y, l[j]? = some x → l[j + d + 1]? = some y → ltK x.1 y.1 = true := by
      intro d
      induction d with
      | zero => intro j x y hx hy; exact (okAt_cons hy (hat _ _ hy)).2.2.2 j x rfl hx
      | succ d ih =>
        intro j x y hx hy
        have hlt := (List.getElem?_eq_some_iff.1 hy).1
        have hz : l[j + d + 1]? = some l[j + d + 1] := List.getElem?_eq_getElem (by omega)
        have h1 := ih j x _ hx hz
        have h2 := (okAt_cons hy (hat _ _ hy)).2.2.2 (j + d + 1) _ (by omega) hz
        exact ltK_trans h1 h2
    unfold Rising
    rw [List.pairwise_iff_getElem]
    intro i j hi hj hij
    obtain ⟨d, rfl⟩ : ∃ d, j = i + d + 1 := ⟨j - i - 1, by omega⟩
    exact step d i _ _ (List.getElem?_eq_getElem hi) (List.getElem?_eq_getElem hj)
  · obtain ⟨k, hk⟩ := List.mem_iff_getElem?.1 he
    have := okAt_cons hk (hat _ _ hk)
    exact ⟨this.1, this.2.1, this.2.2.1⟩
theorem entsOk_mk {bk : Int} {l : List En} (h8 : l.length ≤ 8) (hr : Rising l) (he : ∀ e ∈ l, mayKey e.1 = true ∧ mayValue e.2 = true ∧ (bucketOf e.1 : Int) = bk) : entsOk bk l = true := by
  unfold entsOk
  simp only [Bool.and_eq_true, decide_eq_true_eq, List.all_eq_true, List.mem_range]
  refine ⟨h8, fun k hk => ?_⟩
  have hx : l[k]? = some l[k] := List.getElem?_eq_getElem hk
  obtain ⟨h1, h2, h3⟩ := he _ (List.getElem_mem hk)
  unfold okAt
  rw [hx]
  simp only [Bool.and_eq_true, decide_eq_true_eq]
  refine ⟨⟨⟨h1, h2⟩, h3⟩, ?_⟩
  cases k with
  | zero => rfl
  | succ j =>
    have hp : l[j]? = some l[j] := List.getElem?_eq_getElem (by omega)
    simp only [hp]
    exact (List.pairwise_iff_getElem.1 hr) j (j + 1) (by omega) hk (by omega)
structure LpOk (p : LogP) : Prop where
  lo : 0 ≤ p.bucket
  hi : p.bucket < 64
  ver : p.ver < 2147483647
  inc : zeros p.inc 4 ≤ 1
  was : entsOk p.bucket p.was = true
  now : entsOk p.bucket p.now = true
structure PsOk (ps : List LogP) : Prop where
  all : ∀ p ∈ ps, LpOk p
  nd : (ps.map (·.bucket)).Nodup
  len : ps.length ≤ 8
theorem PsOk.nil : PsOk [] := ⟨fun _ h => (nomatch h), List.nodup_nil, by simp⟩
theorem may_size {s : ByteArray} (h : mayKey s = true) : s.size ≤ 32 := by
  unfold mayKey at h
  simp only [Bool.and_eq_true, decide_eq_true_eq] at h
  exact h.2
theorem mayv_size {s : ByteArray} (h : mayValue s = true) : s.size ≤ 64 := by
  unfold mayValue at h
  simpa using h
theorem PsOk.logs {ls : List LogM} (h : PsOk (ls.map LogM.p)) : LogsOk ls := logsOk_of fun p hp => ⟨(entsOk_parts (h.all p hp).now).2.1, (entsOk_parts (h.all p hp).now).1⟩
theorem PsOk.fits {ls : List LogM} (h : PsOk (ls.map LogM.p)) : LogsFit ls := logsFit_of fun p hp => ⟨(entsOk_parts (h.all p hp).was).1, (entsOk_parts (h.all p hp).now).1, fun e he => by
  have := (entsOk_parts (h.all p hp).now).2.2 e he
  have h1 := may_size this.1
  have h2 := mayv_size this.2.1
  omega⟩
theorem PsOk.bks {ls : List LogM} (h : PsOk (ls.map LogM.p)) : ∀ E ∈ ls, 0 ≤ E.bucket ∧ E.bucket < 64 := fun E hE => ⟨(h.all E.p (List.mem_map.2 ⟨E, hE, rfl⟩)).lo, (h.all E.p (List.mem_map.2 ⟨E, hE, rfl⟩)).hi⟩
theorem setNow_bk (ps : List LogP) (b : Int) (l : List En) : (setNow ps b l).map (·.bucket) = ps.map (·.bucket) := by
  unfold setNow
  rw [List.map_map]
  apply List.map_congr_left
  intro p hp
  simp only [Function.comp]
  split <;> rfl
theorem now_ok {ps : List LogP} (h : PsOk ps) (b : Int) (hb : hasP ps b = true) : entsOk b (nowP ps b) = true := by
  unfold hasP at hb
  rw [List.any_eq_true] at hb
  obtain ⟨q, hq, hqb⟩ := hb
  unfold nowP
  cases hf : ps.find? (fun p => decide (p.bucket = b)) with
  | none => exact absurd hqb (by have := List.find?_eq_none.1 hf q hq; simpa using this)
  | some p =>
    have h1 := List.mem_of_find?_eq_some hf
    have h2 := List.find?_some hf
    simp only [decide_eq_true_eq] at h2
    simp only [Option.map_some, Option.getD_some]
    have := (h.all p h1).now
    rwa [h2] at this
theorem PsOk.setNow {ps : List LogP} (h : PsOk ps) {b : Int} {l : List En} (hl : entsOk b l = true) : PsOk (setNow ps b l) := by
  refine ⟨fun p hp => ?_, by rw [setNow_bk]; exact h.nd, by unfold Proofs.Ytomcekjhehceoaa.setNow; rw [List.length_map]; exact h.len⟩
  unfold Proofs.Ytomcekjhehceoaa.setNow at hp
  obtain ⟨q, hq, rfl⟩ := List.mem_map.1 hp
  have hk := h.all q hq
  split
  · rename_i hb
    exact ⟨hk.lo, hk.hi, hk.ver, hk.inc, hk.was, by simp only; rw [hb]; exact hl⟩
  · exact hk
theorem PsOk.learn {ps : List LogP} (h : PsOk ps) (done : Bool) (x : ItemR) (data : List En) : PsOk (learnS done ps x data).2 := by
  unfold learnS
  split
  · exact h
  · split
    · exact h
    · rename_i hbad
      split
      · exact h
      · rename_i hhas
        split
        · exact h
        · rename_i hlen
          simp only [learnBad, Bool.not_eq_true, Bool.or_eq_false_iff, Bool.not_eq_false', Bool.and_eq_true, decide_eq_true_eq] at hbad
          obtain ⟨_, ⟨h1, h2, h3, h4⟩, h5⟩ := hbad
          refine ⟨fun p hp => ?_, ?_, by simp; omega⟩
          · rcases List.mem_append.1 hp with hp | hp
            · exact h.all p hp
            · simp only [List.mem_singleton] at hp
              subst hp
              exact ⟨h1, h2, h3, h4, h5, h5⟩
          · rw [List.map_append, List.nodup_append]
            refine ⟨h.nd, by simp, fun a ha b hb e => ?_⟩
            simp only [List.map_cons, List.map_nil, List.mem_singleton] at hb
            subst hb
            subst e
            obtain ⟨p, hp, hpb⟩ := List.mem_map.1 ha
            apply hhas
            unfold hasP
            rw [List.any_eq_true]
            exact ⟨p, hp, by simpa using hpb⟩
theorem PsOk.put {ps : List LogP} (h : PsOk ps) (done : Bool) (k v : ByteArray) : PsOk (putS done ps k v).2 := by
  unfold putS
  split
  · rename_i hc
    obtain ⟨_, hk, hv, hh⟩ := codeP_zero hc
    split
    · exact h
    · rename_i hfull
      have hn := entsOk_parts (now_ok h _ hh)
      refine h.setNow (entsOk_mk ?_ hn.2.1.putK ?_)
      · rw [len_putK]
        split
        · exact hn.1
        · rename_i hk2
          simp only [hk2, true_and, Nat.not_le] at hfull
          omega
      · intro e he
        rcases mem_putK he with rfl | he
        · exact ⟨hk, hv, rfl⟩
        · exact hn.2.2 e he
  · exact h
theorem PsOk.del {ps : List LogP} (h : PsOk ps) (done : Bool) (k : ByteArray) : PsOk (delS done ps k).2 := by
  unfold delS
  split
  · rename_i hc
    obtain ⟨_, hk, hv, hh⟩ := codeP_zero hc.1
    have hn := entsOk_parts (now_ok h _ hh)
    exact h.setNow (entsOk_mk (Nat.le_trans len_delK hn.1) hn.2.1.delK (fun e he => hn.2.2 e (mem_delK he)))
  · exact h
end Go.Proofs.Ytomcekjhehceoaa
