/- PLAIN LAW: in whatever order a manager hears (ManagerOrder). No program in sight. -/
import Derived.Test.YtplliabmnhigbaaOrdP19
set_option linter.unusedVariables false
set_option linter.unusedSimpArgs false
namespace Go.Proofs.Ytplliabmnhigbaa
open Go.Tk
theorem core_get {s s' : List ItS} (h : s'.map ItS.core = s.map ItS.core) {k : Nat} {x : ItS} (hx : s[k]? = some x) : ∃ y, s'[k]? = some y ∧ y.core = x.core := by
  have h1 : (s'.map ItS.core)[k]? = some x.core := by rw [h, List.getElem?_map, hx]; rfl
  rw [List.getElem?_map] at h1
  cases hy : s'[k]? with
  | none => rw [hy] at h1; simp at h1
  | some y =>
    rw [hy] at h1
    simp only [Option.map_some, Option.some.injEq] at h1
    exact ⟨y, rfl, h1⟩
theorem core_right {x y : ItS} (h : y.core = x.core) : y.r.right = x.r.right ∧ y.bucket = x.bucket ∧ y.inc = x.inc := by
  obtain ⟨a, b, c, B, d, e, f⟩ := x
  obtain ⟨a', b', c', B', d', e', f'⟩ := y
  simp only [ItS.core, Core.mk.injEq] at h
  obtain ⟨rfl, rfl, rfl, rfl, rfl⟩ := h
  exact ⟨rfl, rfl, rfl⟩
theorem core_itemsOk {s s' : List ItS} (h : s'.map ItS.core = s.map ItS.core) : itemsOk (s'.map ItS.r) = itemsOk (s.map ItS.r) := by
  have hl : s'.length = s.length := by simpa using congrArg List.length h
  have hk : ∀ k, itemOkAt (s'.map ItS.r) k = itemOkAt (s.map ItS.r) k := by
    intro k
    unfold itemOkAt
    simp only [List.getElem?_map]
    cases hx : s[k]? with
    | none =>
      have : s'[k]? = none := by rw [List.getElem?_eq_none_iff] at hx ⊢; omega
      simp [this]
    | some x =>
      obtain ⟨y, hy, hc⟩ := core_get h hx
      rw [hy]
      obtain ⟨c1, c2, c3⟩ := core_right hc
      simp only [Option.map_some]
      rw [c1]
      cases k with
      | zero => rfl
      | succ j =>
        simp only
        cases hp : s[j]? with
        | none => have := (List.getElem?_eq_some_iff.1 hx).1; rw [List.getElem?_eq_none_iff] at hp; omega
        | some p =>
          obtain ⟨q, hq, hcq⟩ := core_get h hp
          rw [hq]
          obtain ⟨d1, d2, d3⟩ := core_right hcq
          simp only [Option.map_some]
          congr 1
          exact decide_eq_decide.2 (by show q.bucket < y.bucket ↔ p.bucket < x.bucket; rw [c2, d2])
  unfold itemsOk
  simp only [List.length_map, hl]
  congr 1
  funext k
  exact hk k
theorem core_tx_right {id client m0 m1 m2 : Int} {v v' : Value} {s s' : List ItS} (h : s'.map ItS.core = s.map ItS.core) : (TxR.mk id client m0 m1 m2 v' (s'.map ItS.r)).right = (TxR.mk id client m0 m1 m2 v (s.map ItS.r)).right := by
  have hl : s'.length = s.length := by simpa using congrArg List.length h
  unfold TxR.right
  simp only [List.length_map, hl, core_itemsOk h]
theorem cn_zero_one (inc : Nat → Int) : ∀ n, cn zrow inc 1 n = 0
  | 0 => rfl
  | n + 1 => by simp [cn, cn_zero_one inc n, zrow]
theorem cn_zero_zero (inc : Nat → Int) : ∀ n, cn zrow inc 0 n + zeros inc n = n
  | 0 => rfl
  | n + 1 => by
    have := cn_zero_zero inc n
    have hz : zrow n = 0 := rfl
    simp only [cn, zeros]
    by_cases h : inc n = 0
    · simp [h, hz]; omega
    · simp [h, hz]; omega
theorem decide_zero {s : List ItS} (h1 : 1 ≤ s.length) (hok : itemsOk (s.map ItS.r) = true) : (decide18 true s.length s.length (fun _ => zrow) (incsOf (s.map ItS.r))).1 = 0 := by
  have hr : rowsOk (fun _ => zrow) s.length = true := rowsOk_iff.2 (fun i k _ _ => by simp [zrow])
  rw [decide18_ok hr]
  have hp : prep (fun _ => zrow) (incsOf (s.map ItS.r)) s.length = false := by
    rw [← Bool.not_eq_true, prep_iff]
    intro h
    have := h 0 (by omega)
    rw [cn_zero_one] at this
    omega
  have hs : sunk (fun _ => zrow) (incsOf (s.map ItS.r)) s.length = false := by
    rw [← Bool.not_eq_true, sunk_iff]
    rintro ⟨i, hi, hlt⟩
    have hx : s[i]? = some s[i] := List.getElem?_eq_getElem hi
    rw [incs_at hx, cn_zero_one] at hlt
    have hz := (right_items hok i (s[i]).r (by rw [List.getElem?_map, hx]; rfl)).1
    unfold ItemR.right at hz
    simp only [Bool.and_eq_true, decide_eq_true_eq] at hz
    have h4 := hz.1.2.2.2
    have := cn_zero_zero (s[i]).inc 4
    simp only [ItS.r] at h4
    omega
  rw [hp, hs]
  rfl
theorem visit_of {id : Int} {s : List ItS} {k r : Nat} {x : ItS} (hx : s[k]? = some x) (hr : r < 4) (hinc : x.inc r ≠ 0) : (⟨k, r, ⟨id, x.bucket, r, 0⟩⟩ : Visit) ∈ visits id s := by
  obtain ⟨rest, h⟩ := visits_split id s hx hr hinc
  rw [h]
  simp
theorem mget_new {id : Int} {s : List ItS} {pls : List (Inst × Learn11)} (h : pls = (visits id s).map (fun v => (v.i, newL 3))) {i : Inst} {l : Learn11} (hl : mget pls i = some l) : l = newL 3 ∧ ∃ v ∈ visits id s, v.i = i := by
  have hm := mget_mem hl
  rw [h] at hm
  obtain ⟨v, hv, e⟩ := List.mem_map.1 hm
  injection e with e1 e2
  exact ⟨e2.symm, v, hv, e1⟩
theorem Kn.zero {id : Int} {s : List ItS} {pls : List (Inst × Learn11)} (hpls : pls = (visits id s).map (fun v => (v.i, newL 3))) (h1 : 1 ≤ s.length) (hok : itemsOk (s.map ItS.r) = true) : Kn id s pls 0 := by
  refine ⟨right_nodup hok, fun k r x hx hr hinc => ?_, fun i hi => ?_, fun i l hl => ?_, ?_⟩
  · have hv := visit_of (id := id) hx hr hinc
    cases hg : mget pls ⟨id, x.bucket, r, 0⟩ with
    | some l => rfl
    | none =>
      exfalso
      refine mget_none.1 hg ?_
      rw [hpls]
      simp only [keysOf, List.map_map, List.mem_map]
      exact ⟨_, hv, rfl⟩
  · obtain ⟨l, hl⟩ := Option.isSome_iff_exists.1 hi
    obtain ⟨_, v, hv, e⟩ := mget_new hpls hl
    obtain ⟨x, hx, hr, hinc, hvi⟩ := visits_mem hv
    exact ⟨v.k, v.r, x, hx, hr, hinc, by rw [← e, hvi]⟩
  · rw [(mget_new hpls hl).1]
    exact LnOk.zero
  · rw [decideOf_eq]
    have : VV id s pls = fun _ => zrow := by
      funext i r
      unfold VV zrow cval
      split
      · split
        · cases hg : mget pls ⟨id, _, r, 0⟩ with
          | none => rfl
          | some l =>
            rw [(mget_new hpls hg).1]
            rfl
        · rfl
      · rfl
    rw [this, decide_zero h1 hok]
/-! ### one value a vote -/
def Sta (v : ByteArray) (l : Learn11) : Prop :=
  (l.is = true ∧ l.chosen = v ∧ readOf v ≠ 0) ∨ (l.is = false ∧ (l.said = [] ∨ ∃ f, (f = 0 ∨ f = 1) ∧ readOf v ≠ 0 ∧ l.said = [(f, ⟨noB, v⟩)]))
def Hd (l : Learn11) (f : Int) : Prop := l.is = true ∨ mget l.said f ≠ none
theorem acc_sta {v : ByteArray} {l : Learn11} (h : Sta v l) (hn : l.n = 3) (hv : readOf v ≠ 0) {f : Int} (hf : f = 0 ∨ f = 1) :
    Sta v (accepted11 l f noB v).2.2 ∧ Hd (accepted11 l f noB v).2.2 f ∧ ∀ g, Hd l g → Hd (accepted11 l f noB v).2.2 g := by
  have hf2 : ¬ f < 0 ∧ ¬ l.n ≤ f := by omega
  rcases h with ⟨h1, h2, h3⟩ | ⟨h1, h2⟩
  · have e : accepted11 l f noB v = (.empty, false, l) := by
      unfold accepted11
      rw [if_pos (.inl h1)]
    rw [e]
    exact ⟨.inl ⟨h1, h2, h3⟩, .inl h1, fun g hg => hg⟩
  · rcases h2 with h2 | ⟨g, hg, _, h2⟩
    · have e : accepted11 l f noB v = (.empty, false, ⟨l.n, [(f, ⟨noB, v⟩)], l.chosen, l.is⟩) := by
        unfold accepted11
        rw [if_neg (by simp [h1, hf2, h2, stale11, mget])]
        simp only [h2, mset]
        rw [if_pos (by simp [told11, Said.same]; omega)]
      rw [e]
      refine ⟨.inr ⟨h1, .inr ⟨f, hf, hv, rfl⟩⟩, .inr (by simp [mget_cons]), fun q hq => ?_⟩
      rcases hq with hq | hq
      · exact .inl hq
      · rw [h2] at hq; exact absurd rfl hq
    · by_cases hfg : g = f
      · subst hfg
        have e : accepted11 l g noB v = (.empty, false, l) := by
          unfold accepted11
          rw [if_pos (.inr (.inr (.inr (by rw [h2]; simp [stale11, mget_cons, less]))))]
        rw [e]
        exact ⟨.inr ⟨h1, .inr ⟨g, hg, hv, h2⟩⟩, .inr (by rw [h2]; simp [mget_cons]), fun q hq => hq⟩
      · have e : accepted11 l f noB v = (v, true, ⟨l.n, [(g, ⟨noB, v⟩), (f, ⟨noB, v⟩)], v, true⟩) := by
          unfold accepted11
          rw [if_neg (by simp [h1, hf2, h2, stale11, mget_cons, hfg, mget])]
          simp only [h2, mset, hfg, if_false]
          rw [if_neg (by simp [told11, Said.same]; omega)]
        rw [e]
        exact ⟨.inl ⟨rfl, rfl, hv⟩, .inl rfl, fun q hq => .inl rfl⟩
theorem sta_done {v : ByteArray} {l : Learn11} (h : Sta v l) (h0 : Hd l 0) (h1 : Hd l 1) : l.is = true ∧ l.chosen = v := by
  rcases h with ⟨a, b, _⟩ | ⟨a, b⟩
  · exact ⟨a, b⟩
  · exfalso
    rcases h0 with h0 | h0
    · rw [h0] at a; exact absurd a (by simp)
    rcases h1 with h1 | h1
    · rw [h1] at a; exact absurd a (by simp)
    rcases b with b | ⟨f, hf, _, b⟩
    · rw [b] at h0; exact h0 rfl
    · rw [b] at h0 h1
      rcases hf with rfl | rfl
      · exact h1 (by simp [mget_cons, mget])
      · exact h0 (by simp [mget_cons, mget])
/-- what each learner has heard, where each vote has one text -/
structure Ord (id : Int) (s : List ItS) (fr : Nat → Nat → Int) (pls : List (Inst × Learn11)) : Prop where
  st : ∀ (k r : Nat) x l, s[k]? = some x → r < 4 → x.inc r ≠ 0 → mget pls ⟨id, x.bucket, r, 0⟩ = some l → Sta (textOf (fr k r)) l
/-- the first m places were heard -/
def Heared (id : Int) (s : List ItS) (fr : Nat → Nat → Int) (pls : List (Inst × Learn11)) (m : Nat) : Prop :=
  ∀ p, p < m → ∀ x l, s[p / 8]? = some x → x.inc (p / 2 % 4) ≠ 0 → readOf (textOf (fr (p / 8) (p / 2 % 4))) ≠ 0 → mget pls ⟨id, x.bucket, ((p / 2 % 4 : Nat) : Int), 0⟩ = some l → Hd l ((p % 2 : Nat) : Int)
theorem Ord.hear {id : Int} {s : List ItS} {fr : Nat → Nat → Int} {pls : List (Inst × Learn11)} {d : Int} (h : Ord id s fr pls) (hk : Kn id s pls d) {a : Nat} (ha : a / 8 < s.length) {x : ItS} (hx : s[a / 8]? = some x) (hv : readOf (textOf (fr (a / 8) (a / 2 % 4))) ≠ 0) :
    Ord id s fr (hear11 true id s pls d x.bucket ((a / 2 % 4 : Nat) : Int) ((a % 2 : Nat) : Int) noB (textOf (fr (a / 8) (a / 2 % 4)))).2.2.1 ∧
    ∀ m, Heared id s fr pls m → Heared id s fr (hear11 true id s pls d x.bucket ((a / 2 % 4 : Nat) : Int) ((a % 2 : Nat) : Int) noB (textOf (fr (a / 8) (a / 2 % 4)))).2.2.1 m ∧ (m = a → Heared id s fr (hear11 true id s pls d x.bucket ((a / 2 % 4 : Nat) : Int) ((a % 2 : Nat) : Int) noB (textOf (fr (a / 8) (a / 2 % 4)))).2.2.1 (m + 1)) := by
  have hr4 : a / 2 % 4 < 4 := Nat.mod_lt _ (by omega)
  have hf : ((a % 2 : Nat) : Int) = 0 ∨ ((a % 2 : Nat) : Int) = 1 := by omega
  unfold hear11
  cases hl : mget pls ⟨id, x.bucket, ((a / 2 % 4 : Nat) : Int), 0⟩ with
  | none =>
    refine ⟨h, fun m hm => ⟨hm, fun e => ?_⟩⟩
    subst e
    intro p hp y l hy hinc hrd hml
    by_cases hpa : p < m
    · exact hm p hpa y l hy hinc hrd hml
    · obtain rfl : p = m := by omega
      rw [hx] at hy
      injection hy with hy
      subst hy
      rw [hl] at hml
      exact absurd hml (by simp)
  | some l =>
    simp only
    rw [if_neg hv, if_neg (by omega)]
    obtain ⟨k, r, y, hy, hr, hinc, hi⟩ := hk.only _ (by rw [hl]; rfl)
    have hkeq : k = a / 8 ∧ r = a / 2 % 4 := by
      injection hi with _ e1 e2 _
      refine ⟨?_, by omega⟩
      have h1 : (s.map (·.bucket))[k]? = some x.bucket := by rw [List.getElem?_map, hy, e1]; rfl
      have h2 : (s.map (·.bucket))[a / 8]? = some x.bucket := by rw [List.getElem?_map, hx]; rfl
      exact (List.getElem?_inj (by have := (List.getElem?_eq_some_iff.1 h1).1; exact this) hk.nd).1 (h1.trans h2.symm)
    obtain ⟨rfl, rfl⟩ := hkeq
    rw [hx] at hy
    injection hy with hy
    subst hy
    obtain ⟨a1, a2, a3⟩ := acc_sta (h.st _ _ x l hx hr hinc hl) (hk.ok _ _ hl).n hv hf
    generalize hL : accepted11 l ((a % 2 : Nat) : Int) noB (textOf (fr (a / 8) (a / 2 % 4))) = L at *
    have key : Ord id s fr (mset pls ⟨id, x.bucket, ((a / 2 % 4 : Nat) : Int), 0⟩ L.2.2) ∧ ∀ m, Heared id s fr pls m → Heared id s fr (mset pls ⟨id, x.bucket, ((a / 2 % 4 : Nat) : Int), 0⟩ L.2.2) m ∧ (m = a → Heared id s fr (mset pls ⟨id, x.bucket, ((a / 2 % 4 : Nat) : Int), 0⟩ L.2.2) (m + 1)) := by
      have hold : ∀ m, Heared id s fr pls m → Heared id s fr (mset pls ⟨id, x.bucket, ((a / 2 % 4 : Nat) : Int), 0⟩ L.2.2) m := by
        intro m hm p hp y l' hy hinc' hrd hml
        rw [mget_mset] at hml
        by_cases e : (⟨id, x.bucket, ((a / 2 % 4 : Nat) : Int), 0⟩ : Inst) = ⟨id, y.bucket, ((p / 2 % 4 : Nat) : Int), 0⟩
        · rw [if_pos e] at hml
          injection hml with hml
          rw [← hml]
          rw [e] at hl
          exact a3 _ (hm p hp y l hy hinc' hrd hl)
        · rw [if_neg e] at hml
          exact hm p hp y l' hy hinc' hrd hml
      refine ⟨⟨fun k r y l' hy hr' hinc' hml => ?_⟩, fun m hm => ⟨hold m hm, fun e => ?_⟩⟩
      · rw [mget_mset] at hml
        by_cases e : (⟨id, x.bucket, ((a / 2 % 4 : Nat) : Int), 0⟩ : Inst) = ⟨id, y.bucket, (r : Int), 0⟩
        · rw [if_pos e] at hml
          injection hml with hml
          rw [← hml]
          injection e with _ e1 e2 _
          have h1 : (s.map (·.bucket))[k]? = some x.bucket := by rw [List.getElem?_map, hy, e1]; rfl
          have h2 : (s.map (·.bucket))[a / 8]? = some x.bucket := by rw [List.getElem?_map, hx]; rfl
          have hk8 := (List.getElem?_inj (by have := (List.getElem?_eq_some_iff.1 h1).1; exact this) hk.nd).1 (h1.trans h2.symm)
          have hr8 : r = a / 2 % 4 := by omega
          rw [hk8, hr8]
          exact a1
        · rw [if_neg e] at hml
          exact h.st k r y l' hy hr' hinc' hml
      · subst e
        intro p hp y l' hy hinc' hrd hml
        by_cases hpa : p < m
        · exact hold m hm p hpa y l' hy hinc' hrd hml
        · obtain rfl : p = m := by omega
          rw [hx] at hy
          injection hy with hy
          subst hy
          rw [mget_mset, if_pos rfl] at hml
          injection hml with hml
          rw [← hml]
          exact a2
    split <;> exact key
theorem Ord.zero {id : Int} {s : List ItS} {fr : Nat → Nat → Int} {pls : List (Inst × Learn11)} (hpls : pls = (visits id s).map (fun v => (v.i, newL 3))) : Ord id s fr pls :=
  ⟨fun k r x l hx hr hinc hl => by rw [(mget_new hpls hl).1]; exact .inr ⟨rfl, .inl rfl⟩⟩
theorem read_textOf {v : Int} (h : 0 ≤ v ∧ v ≤ 2) : readOf (textOf v) = v := by
  have : v = 0 ∨ v = 1 ∨ v = 2 := by omega
  rcases this with rfl | rfl | rfl <;> simp [readOf, textOf, ByteArray.toList_eq]
/-- AT THE END the decision is what these votes come to -/
theorem Ord.end_ {id : Int} {s : List ItS} {fr : Nat → Nat → Int} {pls : List (Inst × Learn11)} {d : Int} (h : Ord id s fr pls) (hk : Kn id s pls d) (hh : Heared id s fr pls (8 * s.length)) (hok : (decide18 true s.length s.length fr (incsOf (s.map ItS.r))).2 = 0) : d = (decide18 true s.length s.length fr (incsOf (s.map ItS.r))).1 := by
  have hrows := (decide18_zero hok).2.2
  rw [hk.d, decideOf_eq]
  rw [decide_count (VV_rows id s pls s.length) hrows]
  intro i r hi hr hinc
  have hx : s[i]? = some s[i] := List.getElem?_eq_getElem hi
  rw [incs_at hx] at hinc
  have hfr := rowsOk_iff.1 hrows i r hi hr
  obtain ⟨l, hl⟩ := Option.isSome_iff_exists.1 (hk.has i r _ hx hr hinc)
  have hst := h.st i r _ l hx hr hinc hl
  have hrt := read_textOf hfr
  unfold VV cval
  rw [hx]
  simp only
  rw [if_pos ⟨hr, hinc⟩, hl]
  simp only
  by_cases hv : readOf (textOf (fr i r)) = 0
  · have : l.is = false := by
      rcases hst with ⟨_, _, h3⟩ | ⟨h1, _⟩
      · exact absurd hv h3
      · exact h1
    rw [if_neg (by rw [this]; simp)]
    rw [← hrt, hv]
    rfl
  · have e1 : (8 * i + 2 * r) / 8 = i := by omega
    have e2 : (8 * i + 2 * r) / 2 % 4 = r := by omega
    have e3 : (8 * i + 2 * r) % 2 = 0 := by omega
    have e4 : (8 * i + 2 * r + 1) / 8 = i := by omega
    have e5 : (8 * i + 2 * r + 1) / 2 % 4 = r := by omega
    have e6 : (8 * i + 2 * r + 1) % 2 = 1 := by omega
    have h0 := hh (8 * i + 2 * r) (by omega) s[i] l (by rw [e1]; exact hx) (by rw [e2]; exact hinc) (by rw [e1, e2]; exact hv) (by rw [e2]; exact hl)
    have h1 := hh (8 * i + 2 * r + 1) (by omega) s[i] l (by rw [e4]; exact hx) (by rw [e5]; exact hinc) (by rw [e4, e5]; exact hv) (by rw [e5]; exact hl)
    rw [e3] at h0
    rw [e6] at h1
    obtain ⟨g1, g2⟩ := sta_done hst h0 h1
    rw [if_pos g1, g2, hrt]
    rfl
end Go.Proofs.Ytplliabmnhigbaa
