/- PLAIN LAW: whoever adds up the changes knows who is suspected. No program in sight. -/
import Derived.Test.YtobiodbdnpcanaaDetCh09
set_option linter.unusedVariables false
set_option linter.unusedSimpArgs false
namespace Go.Proofs.Ytobiodbdnpcanaa
open Go.Tk
def setTold (now : Int) (p : Peer) : Peer := ⟨p.last, p.mean, p.margin, badP p now⟩
theorem setTold_ok {now : Int} {p : Peer} (h : p.ok) : (setTold now p).ok := ⟨h.last, h.mean, h.margin⟩
theorem setTold_bad (now t : Int) (p : Peer) : badP (setTold now p) t = badP p t := rfl
def chOf (m : List (Int × Peer)) (now id : Int) : Option (Int × Bool) :=
  match mget m id with
  | some p => if badP p now = p.told then none else some (id, badP p now)
  | none => none
theorem filterMap_congr' {α β : Type} {f g : α → Option β} : ∀ {l : List α}, (∀ a ∈ l, f a = g a) → l.filterMap f = l.filterMap g
  | [], _ => rfl
  | a :: l, h => by
    rw [List.filterMap_cons, List.filterMap_cons, h a (List.mem_cons_self ..), filterMap_congr' (fun b hb => h b (List.mem_cons_of_mem _ hb))]
/-- what the changes come to -/
theorem ch_fold {now : Int} (ht : timeOk now = true) : ∀ (L : List Int) (m : List (Int × Peer)) (out : List (Int × Bool)), L.Nodup → chInv L m →
    (L.foldl (chStep now) (m, out)).2 = out ++ L.filterMap (chOf m now) ∧ (∀ j, mget (L.foldl (chStep now) (m, out)).1 j = if j ∈ L then (mget m j).map (setTold now) else mget m j) ∧ keysOf (L.foldl (chStep now) (m, out)).1 = keysOf m
  | [], m, out, _, _ => by simp
  | id :: L, m, out, hnd, hi => by
    obtain ⟨p, hp, hpo⟩ := hi id (List.mem_cons_self ..)
    have hn := List.nodup_cons.1 hnd
    have hkey : id ∈ keysOf m := by
      by_cases h : id ∈ keysOf m
      · exact h
      · rw [mget_none.2 h] at hp; exact absurd hp (by simp)
    by_cases hc : badP p now = p.told
    · have hs : chStep now (m, out) id = (m, out) := by
        unfold chStep
        simp only [hp, Option.getD_some, badW_eq hpo ht, hc]
        simp
      have he : chOf m now id = none := by simp [chOf, hp, hc]
      obtain ⟨h1, h2, h3⟩ := ch_fold ht L m out hn.2 (fun j hj => hi j (List.mem_cons_of_mem _ hj))
      rw [List.foldl_cons, hs]
      refine ⟨by rw [h1, List.filterMap_cons, he], fun j => ?_, h3⟩
      rw [h2]
      by_cases hj : j ∈ L
      · simp [hj]
      · by_cases hji : j = id
        · subst hji
          have : setTold now p = p := by
            obtain ⟨a, b, c, d⟩ := p
            simp only [setTold] at hc ⊢
            rw [hc]
          simp [hj, hp, this]
        · simp [hj, hji]
    · have hs : chStep now (m, out) id = (mset m id (setTold now p), out ++ [(id, badP p now)]) := by
        unfold chStep
        simp only [hp, Option.getD_some, badW_eq hpo ht, ht, Bool.true_and]
        rw [if_pos (by simpa using hc)]
        rfl
      have he : chOf m now id = some (id, badP p now) := by simp [chOf, hp, hc]
      have hi' : chInv L (mset m id (setTold now p)) := fun j hj => by
        obtain ⟨q, h1, h2⟩ := hi j (List.mem_cons_of_mem _ hj)
        refine ⟨q, ?_, h2⟩
        rw [mget_mset, if_neg (fun e => hn.1 (by rw [e]; exact hj))]
        exact h1
      obtain ⟨h1, h2, h3⟩ := ch_fold ht L (mset m id (setTold now p)) (out ++ [(id, badP p now)]) hn.2 hi'
      have hsame : L.filterMap (chOf (mset m id (setTold now p)) now) = L.filterMap (chOf m now) := by
        refine filterMap_congr' (fun j hj => ?_)
        unfold chOf
        rw [mget_mset, if_neg (fun e => hn.1 (by rw [e]; exact hj))]
      rw [List.foldl_cons, hs]
      refine ⟨by rw [h1, hsame, List.filterMap_cons, he, List.append_assoc]; rfl, fun j => ?_, by rw [h3, keys_mset, if_pos hkey]⟩
      rw [h2]
      by_cases hj : j ∈ L
      · have hji : ¬ id = j := fun e => hn.1 (e ▸ hj)
        simp [hj, mget_mset, hji]
      · by_cases hji : j = id
        · subst hji
          simp [hj, mget_mset, hp]
        · have hji' : ¬ id = j := fun e => hji e.symm
          simp [hj, hji, hji', mget_mset]
/-- the flags that are kept, and what is known -/
structure TInv (now : Int) (m : List (Int × Peer)) (bs : List Bool) : Prop where
  len : bs.length = 12
  nd : (keysOf m).Nodup
  key : ∀ id ∈ keysOf m, 0 ≤ id ∧ id < 12
  ok : ∀ q ∈ m, q.2.ok
  last : ∀ q ∈ m, q.2.last ≤ now
  flag : ∀ k : Nat, k < 12 → bs[k]? = some (match mget m (k : Int) with | some p => p.told | none => false)
theorem sorted_keys (m : List (Int × Peer)) (h : (keysOf m).Nodup) : ((keysOf m).mergeSort leB).Nodup ∧ ((keysOf m).mergeSort leB).Pairwise (fun a b => a < b) ∧ ∀ id, id ∈ (keysOf m).mergeSort leB ↔ id ∈ keysOf m := by
  have hp := List.mergeSort_perm (keysOf m) leB
  have hnd : ((keysOf m).mergeSort leB).Nodup := hp.nodup_iff.2 h
  have tr : ∀ a b c : Int, leB a b = true → leB b c = true → leB a c = true := fun a b c h1 h2 => by simp only [leB, decide_eq_true_eq] at *; omega
  have tot : ∀ a b : Int, (leB a b || leB b a) = true := fun a b => by simp only [leB, Bool.or_eq_true, decide_eq_true_eq]; omega
  have hle := List.pairwise_mergeSort tr tot (keysOf m)
  refine ⟨hnd, ?_, fun id => hp.mem_iff⟩
  generalize (keysOf m).mergeSort leB = L at hnd hle
  refine (List.Pairwise.and hle hnd).imp ?_
  intro a b ⟨h1, h2⟩
  simp only [leB, decide_eq_true_eq] at h1
  omega
/-- two rising lists of the same members are one -/
theorem rising_eq : ∀ (a b : List Int), a.Pairwise (fun x y => x < y) → b.Pairwise (fun x y => x < y) → (∀ x, x ∈ a ↔ x ∈ b) → a = b
  | [], [], _, _, _ => rfl
  | [], y :: b, _, _, h => absurd ((h y).2 (List.mem_cons_self ..)) (by simp)
  | x :: a, [], _, _, h => absurd ((h x).1 (List.mem_cons_self ..)) (by simp)
  | x :: a, y :: b, ha, hb, h => by
    have hxa := List.pairwise_cons.1 ha
    have hyb := List.pairwise_cons.1 hb
    have hxy : x = y := by
      rcases List.mem_cons.1 ((h x).1 (List.mem_cons_self ..)) with e | e
      · exact e
      · rcases List.mem_cons.1 ((h y).2 (List.mem_cons_self ..)) with e' | e'
        · exact e'.symm
        · have h1 := hyb.1 x e
          have h2 := hxa.1 y e'
          omega
    subst hxy
    congr 1
    refine rising_eq a b hxa.2 hyb.2 (fun z => ?_)
    constructor
    · intro hz
      rcases List.mem_cons.1 ((h z).1 (List.mem_cons_of_mem _ hz)) with e | e
      · have := hxa.1 z hz; omega
      · exact e
    · intro hz
      rcases List.mem_cons.1 ((h z).2 (List.mem_cons_of_mem _ hz)) with e | e
      · have := hyb.1 z hz; omega
      · exact e
/-! ### the flags -/
def setF (b : List Bool) (c : Int × Bool) : List Bool := b.set c.1.toNat c.2
theorem setF_len : ∀ (out : List (Int × Bool)) (b : List Bool), (out.foldl setF b).length = b.length
  | [], b => rfl
  | c :: out, b => by rw [List.foldl_cons, setF_len out, setF, List.length_set]
theorem setF_other : ∀ (out : List (Int × Bool)) (b : List Bool) (k : Nat), (∀ c ∈ out, 0 ≤ c.1 ∧ c.1 ≠ (k : Int)) → (out.foldl setF b)[k]? = b[k]?
  | [], b, k, _ => rfl
  | c :: out, b, k, h => by
    have hc := h c (List.mem_cons_self ..)
    rw [List.foldl_cons, setF_other out _ k (fun d hd => h d (List.mem_cons_of_mem _ hd)), setF, List.getElem?_set, if_neg (by omega)]
theorem setF_mem : ∀ (out : List (Int × Bool)) (b : List Bool) (k : Nat) (v : Bool), (out.map (·.1)).Nodup → (∀ c ∈ out, 0 ≤ c.1) → ((k : Int), v) ∈ out → k < b.length → (out.foldl setF b)[k]? = some v
  | [], b, k, v, _, _, h, _ => by simp at h
  | c :: out, b, k, v, hnd, h0, h, hk => by
    have hn := List.nodup_cons.1 (by simpa using hnd : (c.1 :: out.map (·.1)).Nodup)
    rw [List.foldl_cons]
    rcases List.mem_cons.1 h with e | e
    · subst e
      rw [setF_other out _ k (fun d hd => ⟨h0 d (List.mem_cons_of_mem _ hd), fun x => hn.1 (List.mem_map.2 ⟨d, hd, x⟩)⟩), setF, List.getElem?_set]
      simp [hk]
    · exact setF_mem out _ k v hn.2 (fun d hd => h0 d (List.mem_cons_of_mem _ hd)) e (by rw [setF, List.length_set]; exact hk)
theorem chOf_some {m : List (Int × Peer)} {now id : Int} {c : Int × Bool} (h : chOf m now id = some c) : c.1 = id ∧ ∃ p, mget m id = some p ∧ c.2 = badP p now ∧ badP p now ≠ p.told := by
  unfold chOf at h
  cases hg : mget m id with
  | none => rw [hg] at h; simp at h
  | some p =>
    rw [hg] at h
    simp only at h
    split at h
    · simp at h
    · rename_i hne
      injection h with h
      subst h
      exact ⟨rfl, p, rfl, rfl, hne⟩
theorem out_keys {m : List (Int × Peer)} {now : Int} : ∀ (L : List Int), ((L.filterMap (chOf m now)).map (·.1)).Sublist L
  | [] => List.Sublist.refl _
  | id :: L => by
    rw [List.filterMap_cons]
    cases h : chOf m now id with
    | none => exact (out_keys L).cons _
    | some c =>
      simp only [List.map_cons]
      rw [(chOf_some h).1]
      exact (out_keys L).cons_cons _
section
variable {now : Int} {m : List (Int × Peer)} {bs : List Bool}
theorem TInv.peer (h : TInv now m bs) {id : Int} (hid : id ∈ keysOf m) : ∃ p, mget m id = some p ∧ p.ok ∧ p.last ≤ now := by
  cases hg : mget m id with
  | none => exact absurd hid (mget_none.1 hg)
  | some p => exact ⟨p, rfl, h.ok _ (mget_mem hg), h.last _ (mget_mem hg)⟩
theorem TInv.chInv_ (h : TInv now m bs) : chInv ((keysOf m).mergeSort leB) m := fun id hid => by
  obtain ⟨p, h1, h2, _⟩ := h.peer ((sorted_keys m h.nd).2.2 id |>.1 hid)
  exact ⟨p, h1, h2⟩
/-- each change that is told is one of a node, and its flag says otherwise -/
theorem TInv.told (h : TInv now m bs) {k : Nat} {c : Int × Bool} (hk : ((((keysOf m).mergeSort leB).filterMap (chOf m now)))[k]? = some c) :
    0 ≤ c.1 ∧ c.1 < 12 ∧ ((((((keysOf m).mergeSort leB).filterMap (chOf m now))).take k).foldl setF bs)[c.1.toNat]? = some (!c.2) := by
  obtain ⟨hnd, _, hmem⟩ := sorted_keys m h.nd
  have hsub := out_keys (m := m) (now := now) ((keysOf m).mergeSort leB)
  have hnd2 := hnd.sublist hsub
  have hc := List.mem_of_getElem? hk
  have hall : ∀ d ∈ ((keysOf m).mergeSort leB).filterMap (chOf m now), 0 ≤ d.1 ∧ d.1 < 12 := by
    intro d hd
    obtain ⟨id, hid, hd2⟩ := List.mem_filterMap.1 hd
    rw [(chOf_some hd2).1]
    exact h.key id ((hmem id).1 hid)
  obtain ⟨id, hid, hc2⟩ := List.mem_filterMap.1 hc
  obtain ⟨e1, p, hp, e2, e3⟩ := chOf_some hc2
  have hr := hall c hc
  refine ⟨hr.1, hr.2, ?_⟩
  generalize ((keysOf m).mergeSort leB).filterMap (chOf m now) = out at *
  have htoNat : ((c.1.toNat : Nat) : Int) = c.1 := by omega
  rw [setF_other]
  · rw [h.flag _ (by omega), htoNat, e1, hp, e2]
    congr 1
    cases hb : badP p now <;> cases ht : p.told <;> simp_all
  · intro d hd
    have hd' := List.mem_of_mem_take hd
    refine ⟨(hall d hd').1, fun e => ?_⟩
    rw [htoNat] at e
    obtain ⟨i, hi, hdi⟩ := List.getElem_of_mem hd
    have hlt : i < k := by rw [List.length_take] at hi; omega
    have hkl := (List.getElem?_eq_some_iff.1 hk).1
    have hik : out[i]? = some d := by
      rw [List.getElem_take] at hdi
      rw [List.getElem?_eq_getElem (by omega), hdi]
    have hne := List.pairwise_iff_getElem.1 hnd2 i k (by rw [List.length_map]; omega) (by rw [List.length_map]; exact hkl) hlt
    rw [List.getElem_map, List.getElem_map] at hne
    have hi2 := (List.getElem?_eq_some_iff.1 hik).2
    have hk2 := (List.getElem?_eq_some_iff.1 hk).2
    rw [hi2, hk2] at hne
    exact hne e
/-- the flags behind the changes -/
def flagsOf (m : List (Int × Peer)) (now : Int) (bs : List Bool) : List Bool := (((keysOf m).mergeSort leB).filterMap (chOf m now)).foldl setF bs
theorem TInv.changed (h : TInv now m bs) (ht : timeOk now = true) :
    (changes9 m now).2 = ((keysOf m).mergeSort leB).filterMap (chOf m now) ∧ TInv now (changes9 m now).1 (flagsOf m now bs) ∧
      (∀ k : Nat, k < 12 → (flagsOf m now bs)[k]? = some (match mget m (k : Int) with | some p => badP p now | none => false)) ∧ (∀ j, mget (changes9 m now).1 j = (mget m j).map (setTold now)) ∧ keysOf (changes9 m now).1 = keysOf m := by
  obtain ⟨hnd, _, hmem⟩ := sorted_keys m h.nd
  obtain ⟨h1, h2, h3⟩ := ch_fold ht _ m [] hnd h.chInv_
  have hget : ∀ j, mget (changes9 m now).1 j = (mget m j).map (setTold now) := by
    intro j
    show mget (((keysOf m).mergeSort leB).foldl (chStep now) (m, [])).1 j = _
    rw [h2 j]
    by_cases hj : j ∈ (keysOf m).mergeSort leB
    · rw [if_pos hj]
    · rw [if_neg hj, mget_none.2 (fun x => hj ((hmem j).2 x))]
      rfl
  have hfl : ∀ k : Nat, k < 12 → (flagsOf m now bs)[k]? = some (match mget m (k : Int) with | some p => badP p now | none => false) := by
    intro k hk
    have hsub := out_keys (m := m) (now := now) ((keysOf m).mergeSort leB)
    have h0 : ∀ c ∈ ((keysOf m).mergeSort leB).filterMap (chOf m now), 0 ≤ c.1 := by
      intro c hc
      obtain ⟨id, hid, hc2⟩ := List.mem_filterMap.1 hc
      rw [(chOf_some hc2).1]
      exact (h.key id ((hmem id).1 hid)).1
    unfold flagsOf
    by_cases hin : ∃ c ∈ ((keysOf m).mergeSort leB).filterMap (chOf m now), c.1 = (k : Int)
    · obtain ⟨c, hc, hck⟩ := hin
      obtain ⟨id, hid, hc2⟩ := List.mem_filterMap.1 hc
      obtain ⟨e1, p, hp, e2, e3⟩ := chOf_some hc2
      rw [setF_mem _ bs k c.2 (hnd.sublist hsub) h0 (by rw [← hck]; exact hc) (by rw [h.len]; exact hk)]
      rw [← hck, e1, hp, e2]
    · rw [setF_other _ bs k (fun c hc => ⟨h0 c hc, fun e => hin ⟨c, hc, e⟩⟩), h.flag k hk]
      cases hg : mget m (k : Int) with
      | none => rfl
      | some p =>
        have hkm : (k : Int) ∈ keysOf m := by
          by_cases hx : (k : Int) ∈ keysOf m
          · exact hx
          · rw [mget_none.2 hx] at hg; exact absurd hg (by simp)
        have hb : badP p now = p.told := by
          by_cases hx : badP p now = p.told
          · exact hx
          · exact absurd ⟨((k : Int), badP p now), List.mem_filterMap.2 ⟨(k : Int), (hmem _).2 hkm, by simp [chOf, hg, hx]⟩, rfl⟩ hin
        simp only [hb]
  have hkeys : keysOf (changes9 m now).1 = keysOf m := h3
  have hat : ∀ q ∈ (changes9 m now).1, ∃ p, mget m q.1 = some p ∧ q.2 = setTold now p := by
    intro q hq
    have hn : (keysOf (changes9 m now).1).Nodup := by rw [hkeys]; exact h.nd
    obtain ⟨j, hj⟩ := List.mem_iff_getElem?.1 hq
    have hg := mget_at hn (k := q.1) (v := q.2) hj
    rw [hget] at hg
    cases hx : mget m q.1 with
    | none => rw [hx] at hg; simp at hg
    | some p => rw [hx] at hg; exact ⟨p, rfl, by simpa using hg.symm⟩
  refine ⟨by have := h1; rw [List.nil_append] at this; exact this, ⟨by rw [flagsOf, setF_len]; exact h.len, by rw [hkeys]; exact h.nd, by rw [hkeys]; exact h.key, fun q hq => ?_, fun q hq => ?_, fun k hk => ?_⟩, hfl, hget, hkeys⟩
  · obtain ⟨p, h4, h5⟩ := hat q hq
    rw [h5]
    exact setTold_ok (h.ok _ (mget_mem h4))
  · obtain ⟨p, h4, h5⟩ := hat q hq
    rw [h5]
    exact h.last _ (mget_mem h4)
  · rw [hfl k hk, hget]
    cases mget m (k : Int) <;> rfl
/-- who is suspected is whose flag is set -/
theorem TInv.suspects (h : TInv now m bs) (ht : timeOk now = true) (hf : ∀ k : Nat, k < 12 → bs[k]? = some (match mget m (k : Int) with | some p => badP p now | none => false)) :
    suspects9 m now = ((List.range 12).filter (fun k => bs.getD k false)).map (fun k : Nat => (k : Int)) := by
  obtain ⟨hnd, hlt, hmem⟩ := sorted_keys m h.nd
  have hbs : ∀ k : Nat, k < 12 → bs.getD k false = (match mget m (k : Int) with | some p => badP p now | none => false) := fun k hk => by
    rw [List.getD_eq_getElem?_getD, hf k hk]; rfl
  refine rising_eq _ _ (hlt.sublist List.filter_sublist) ?_ (fun x => ?_)
  · rw [List.pairwise_map]
    exact ((List.pairwise_lt_range).sublist List.filter_sublist).imp (by intro a b hab; omega)
  · rw [suspects9, List.mem_filter, hmem, List.mem_map]
    constructor
    · rintro ⟨h1, h2⟩
      obtain ⟨p, hp, _⟩ := h.peer h1
      have hr := h.key x h1
      refine ⟨x.toNat, List.mem_filter.2 ⟨List.mem_range.2 (by omega), ?_⟩, by omega⟩
      rw [hbs _ (by omega), show ((x.toNat : Nat) : Int) = x by omega, hp]
      rw [hp] at h2
      simpa [ht] using h2
    · rintro ⟨k, hk, rfl⟩
      obtain ⟨h1, h2⟩ := List.mem_filter.1 hk
      have hk12 := List.mem_range.1 h1
      rw [hbs k hk12] at h2
      cases hg : mget m (k : Int) with
      | none => rw [hg] at h2; simp at h2
      | some p =>
        rw [hg] at h2
        refine ⟨?_, by simpa [ht] using h2⟩
        by_cases hx : (k : Int) ∈ keysOf m
        · exact hx
        · rw [mget_none.2 hx] at hg; exact absurd hg (by simp)
/-- behind the changes nothing is left to tell -/
theorem TInv.quiet (h : TInv now m bs) (ht : timeOk now = true) : (changes9 (changes9 m now).1 now).2 = [] := by
  obtain ⟨_, h2, _, h4, h5⟩ := h.changed ht
  obtain ⟨g1, _⟩ := h2.changed ht
  rw [g1, List.filterMap_eq_nil_iff]
  intro id _
  unfold chOf
  rw [h4]
  cases mget m id with
  | none => rfl
  | some p =>
    have e : badP (setTold now p) now = (setTold now p).told := rfl
    simp [e]
theorem TInv.later (h : TInv now m bs) {t : Int} (ht : now ≤ t) : TInv t m bs :=
  ⟨h.len, h.nd, h.key, h.ok, fun q hq => Int.le_trans (h.last q hq) ht, h.flag⟩
theorem mem_keys {m : List (Int × Peer)} {q : Int × Peer} (h : q ∈ m) : q.1 ∈ keysOf m := List.mem_map.2 ⟨q, h, rfl⟩
theorem TInv.put (h : TInv now m bs) {id : Int} (hid : 0 ≤ id ∧ id < 12) {p : Peer} (hp : p.ok) (hl : p.last ≤ now) (ht : (match mget m id with | some q => q.told | none => false) = p.told) : TInv now (mset m id p) bs := by
  refine ⟨h.len, nodup_mset h.nd id p, fun i hi => ?_, fun q hq => ?_, fun q hq => ?_, fun k hk => ?_⟩
  · rw [keys_mset] at hi
    split at hi
    · exact h.key i hi
    · rcases List.mem_append.1 hi with hi | hi
      · exact h.key i hi
      · simp only [List.mem_singleton] at hi
        rw [hi]; exact hid
  · rcases mem_mset hq with rfl | hq
    · exact hp
    · exact h.ok q hq
  · rcases mem_mset hq with rfl | hq
    · exact hl
    · exact h.last q hq
  · rw [h.flag k hk, mget_mset]
    by_cases e : id = (k : Int)
    · rw [if_pos e, ← e, ht]
    · rw [if_neg e]
theorem TInv.watch (h : TInv now m bs) {id : Int} (hid : 0 ≤ id ∧ id < 12) (ht : timeOk now = true) : TInv now (watch9 8 m id now).2 bs := by
  have hn : 0 ≤ now ∧ now ≤ 1099511627776 := by simpa [timeOk] using ht
  unfold watch9
  rw [if_neg (by simp [ht]; omega)]
  cases hg : mget m id with
  | some p => exact h
  | none =>
    simp only
    split
    · exact h
    · exact h.put hid ⟨⟨hn.1, hn.2⟩, ⟨by simp, by simp⟩, ⟨by simp, by simp⟩⟩ (Int.le_refl _) (by rw [hg])
theorem TInv.beat (h : TInv now m bs) {id : Int} (hid : 0 ≤ id ∧ id < 12) (ht : timeOk now = true) {p : Peer} (hp : mget m id = some p) : TInv now (mset m id (beatP p now)) bs := by
  have hn : 0 ≤ now ∧ now ≤ 1099511627776 := by simpa [timeOk] using ht
  have hl := h.last _ (mget_mem hp)
  exact h.put hid (beatP_ok (h.ok _ (mget_mem hp)) hn) (by simp only [beatP] at *; omega) (by rw [hp]; rfl)
theorem TInv.size (h : TInv now m bs) : m.length ≤ 12 := by
  have hs := sorted_keys m h.nd
  have : ∀ (l : List Int) (a b : Int), l.Pairwise (fun x y => x < y) → (∀ x ∈ l, a ≤ x ∧ x < b) → a ≤ b → (l.length : Int) ≤ b - a := by
    intro l
    induction l with
    | nil => intro a b _ _ hab; simp; omega
    | cons x l ih =>
      intro a b hp hr hab
      have hx := hr x (List.mem_cons_self ..)
      have hp' := List.pairwise_cons.1 hp
      have := ih (x + 1) b hp'.2 (fun y hy => ⟨by have := hp'.1 y hy; omega, (hr y (List.mem_cons_of_mem _ hy)).2⟩) (by omega)
      simp only [List.length_cons]
      omega
  have h2 := this _ 0 12 hs.2.1 (fun x hx => h.key x ((hs.2.2 x).1 hx)) (by omega)
  rw [List.length_mergeSort] at h2
  simp [keysOf] at h2
  omega
theorem TInv.keyOk (h : TInv now m bs) : ∀ q ∈ m, intK.ok q.1 := fun q hq => by
  have := h.key q.1 (mem_keys hq)
  exact okInt ⟨by omega, by omega⟩
theorem TInv.zero : TInv now [] (List.replicate 12 false) :=
  ⟨rfl, List.nodup_nil, fun id hid => by simp [keysOf] at hid, fun q hq => by simp at hq, fun q hq => by simp at hq, fun k hk => by rw [List.getElem?_replicate, if_pos hk]; rfl⟩
theorem TInv.leave (h : TInv now m bs) {j : Nat} (hj : j < 12) : TInv now (mdel m (j : Int)) (bs.set j false) := by
  have hsub := keys_mdel_sub m (j : Int)
  refine ⟨by rw [List.length_set]; exact h.len, nodup_mdel h.nd _, fun i hi => h.key i ((hsub.map _).subset hi), fun q hq => h.ok q (hsub.subset hq), fun q hq => h.last q (hsub.subset hq), fun k hk => ?_⟩
  rw [List.getElem?_set, mget_mdel h.nd]
  by_cases e : j = k
  · subst e
    simp [h.len, hj]
  · have e' : ¬ ((j : Int) = (k : Int)) := by omega
    rw [if_neg e, if_neg e', h.flag k hk]
/-- the count of flags up to k is the place of k among those whose flag is set -/
theorem flag_at (f : Nat → Bool) {k n : Nat} (hk : k < n) (hf : f k = true) : ((List.range n).filter f)[((List.range k).filter f).length]? = some k := by
  obtain ⟨d, rfl⟩ : ∃ d, n = k + (d + 1) := ⟨n - k - 1, by omega⟩
  rw [List.range_add, List.filter_append, List.getElem?_append_right (Nat.le_refl _), Nat.sub_self, List.range_succ_eq_map, List.map_cons, List.filter_cons]
  simp [hf]
end
end Go.Proofs.Ytobiodbdnpcanaa
