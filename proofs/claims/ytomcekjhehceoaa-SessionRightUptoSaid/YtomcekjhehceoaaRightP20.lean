/- PLAIN: what is committed may be; it names what was learnt. -/
import Derived.Test.YtomcekjhehceoaaOwn20
set_option linter.unusedVariables false
set_option linter.unusedSimpArgs false
namespace Go.Proofs.Ytomcekjhehceoaa
open Go.RowKit Go.Tk
def rightC (x : Core) : Bool := decide (0 ≤ x.bucket ∧ x.bucket < 64 ∧ x.ver < 2147483647 ∧ zeros x.inc 4 ≤ 1) && (if x.write then entsOk x.bucket x.ents else decide (x.ents.length = 0))
theorem right_core (x : ItS) : x.r.right = rightC x.core := rfl
theorem at_mem {ps : List LogP} (hnd : (ps.map (·.bucket)).Nodup) {p : LogP} (hp : p ∈ ps) : atP ps p.bucket = p := by
  unfold atP
  induction ps with
  | nil => simp at hp
  | cons x ps ih =>
    simp only [List.map_cons, List.nodup_cons] at hnd
    rcases List.mem_cons.1 hp with rfl | hp
    · simp
    · have hne : x.bucket ≠ p.bucket := fun e => hnd.1 (by rw [e]; exact List.mem_map.2 ⟨p, hp, rfl⟩)
      rw [List.find?_cons_of_neg (by simp [hne])]
      exact ih hnd.2 hp
theorem keys_mem {ps : List LogP} {b : Int} (h : b ∈ keysP ps) : ∃ p ∈ ps, p.bucket = b := by
  have h1 : b ∈ ps.map (·.bucket) := (List.mergeSort_perm _ _).mem_iff.1 h
  obtain ⟨p, hp, he⟩ := List.mem_map.1 h1
  exact ⟨p, hp, he⟩
theorem mem_keys {ps : List LogP} {p : LogP} (h : p ∈ ps) : p.bucket ∈ keysP ps := (List.mergeSort_perm _ _).mem_iff.2 (List.mem_map.2 ⟨p, h, rfl⟩)
theorem keys_rise {ps : List LogP} (hnd : (ps.map (·.bucket)).Nodup) : (keysP ps).Pairwise (· < ·) := by
  have h1 : (keysP ps).Pairwise (fun a b => leB a b = true) := List.pairwise_mergeSort (fun a b c h1 h2 => by simp [leB] at *; omega) (fun a b => by simp [leB]; omega) _
  have h2 : (keysP ps).Nodup := (List.mergeSort_perm _ _).nodup_iff.2 hnd
  rw [List.pairwise_iff_getElem] at *
  intro i j hi hj hij
  have h3 := h1 i j hi hj hij
  have h4 : (keysP ps)[i] ≠ (keysP ps)[j] := fun e => by
    have := (List.nodup_iff_pairwise_ne.1 h2)
    rw [List.pairwise_iff_getElem] at this
    exact this i j hi hj hij e
  simp only [leB, decide_eq_true_eq] at h3
  omega
theorem core_bk {ps : List LogP} (hnd : (ps.map (·.bucket)).Nodup) {b : Int} (h : b ∈ keysP ps) : (coreP (atP ps b)).bucket = b := by
  obtain ⟨p, hp, rfl⟩ := keys_mem h
  rw [at_mem hnd hp]
  rfl
theorem core_right {p : LogP} (h : LpOk p) : rightC (coreP p) = true := by
  unfold rightC coreP
  simp only [Bool.and_eq_true, decide_eq_true_eq]
  refine ⟨⟨h.lo, h.hi, h.ver, h.inc⟩, ?_⟩
  by_cases e : p.was = p.now
  · simp [e]
  · simp [e, h.now]
theorem commit_items {ps : List LogP} (h : PsOk ps) {s : List ItS} (hs : s.map ItS.core = commitP ps) : itemsOk (s.map ItS.r) = true := by
  have hbk : s.map (·.bucket) = keysP ps := by
    have h1 := congrArg (List.map Core.bucket) hs
    rw [List.map_map] at h1
    unfold commitP at h1
    rw [List.map_map] at h1
    have h2 : (keysP ps).map (Core.bucket ∘ fun b => coreP (atP ps b)) = keysP ps := by
      conv => rhs; rw [← List.map_id (keysP ps)]
      exact List.map_congr_left (fun b hb => core_bk h.nd hb)
    rw [h2] at h1
    exact h1
  have hr := keys_rise h.nd
  rw [← hbk, List.pairwise_iff_getElem] at hr
  unfold itemsOk
  rw [List.all_eq_true]
  intro k hk
  rw [List.mem_range, List.length_map] at hk
  unfold itemOkAt
  have hx : (s.map ItS.r)[k]? = some s[k].r := by rw [List.getElem?_map, List.getElem?_eq_getElem hk]; rfl
  rw [hx]
  simp only [Bool.and_eq_true]
  constructor
  · rw [right_core]
    have hm : s[k].core ∈ s.map ItS.core := List.mem_map.2 ⟨_, List.getElem_mem hk, rfl⟩
    rw [hs] at hm
    obtain ⟨b, hb, he⟩ := List.mem_map.1 hm
    obtain ⟨p, hp, rfl⟩ := keys_mem hb
    rw [← he, at_mem h.nd hp]
    exact core_right (h.all p hp)
  · cases k with
    | zero => rfl
    | succ j =>
      have hp : (s.map ItS.r)[j]? = some (s[j]'(by omega)).r := by rw [List.getElem?_map, List.getElem?_eq_getElem (by omega)]; rfl
      simp only [hp]
      have := hr j (j + 1) (by rw [List.length_map]; omega) (by rw [List.length_map]; omega) (by omega)
      simp only [List.getElem_map] at this
      exact decide_eq_true this
theorem commit_len {ps : List LogP} {s : List ItS} (hs : s.map ItS.core = commitP ps) : s.length = ps.length := by
  have := congrArg List.length hs
  simpa [commitP, keysP, List.length_mergeSort] using this
theorem commit_right {ps : List LogP} (h : PsOk ps) (hne : ps ≠ []) {s : List ItS} (hs : s.map ItS.core = commitP ps) (v : Value) : (TxR.mk 5 1 1 2 3 v (s.map ItS.r)).right = true := by
  unfold TxR.right
  have h1 := commit_items h hs
  have h2 := commit_len hs
  have h3 := h.len
  have h4 : 1 ≤ ps.length := by
    cases ps with
    | nil => exact absurd rfl hne
    | cons p ps => simp
  simp only [h1, List.length_map, nodeOk]
  simp
  omega
def key3 (x : ItS) : Int × Int × (Nat → Int) := (x.bucket, x.ver, x.inc)
def key3P (p : LogP) : Int × Int × (Nat → Int) := (p.bucket, p.ver, p.inc)
def mtch (x f : ItS) : Bool := (x.bucket == f.bucket) && ((x.ver == f.ver) && (x.inc 0 == f.inc 0 && x.inc 1 == f.inc 1 && x.inc 2 == f.inc 2 && x.inc 3 == f.inc 3))
theorem setNow_key3 (ps : List LogP) (b : Int) (l : List En) : (setNow ps b l).map key3P = ps.map key3P := by
  unfold setNow
  rw [List.map_map]
  apply List.map_congr_left
  intro p hp
  simp only [Function.comp]
  split <;> rfl
theorem put_key3 (ps : List LogP) (k v : ByteArray) : (putS false ps k v).2.map key3P = ps.map key3P := by
  unfold putS
  split
  · split
    · rfl
    · exact setNow_key3 _ _ _
  · rfl
theorem del_key3 (ps : List LogP) (k : ByteArray) : (delS false ps k).2.map key3P = ps.map key3P := by
  unfold delS
  split
  · exact setNow_key3 _ _ _
  · rfl
theorem learn_cases (ps : List LogP) (x : ItemR) (data : List En) : ((learnS false ps x data).1 = 0 ∧ hasP ps x.bucket = false ∧ (learnS false ps x data).2 = ps ++ [⟨x.bucket, x.ver, x.inc, data, data⟩]) ∨ (¬ ((learnS false ps x data).1 = 0 ∧ hasP ps x.bucket = false) ∧ (learnS false ps x data).2 = ps) := by
  unfold learnS
  simp only [Bool.false_eq_true, if_false]
  by_cases h1 : learnBad x data = true
  · simp [h1]
  · by_cases h2 : hasP ps x.bucket = true
    · simp [h1, h2]
    · by_cases h3 : 8 ≤ ps.length
      · simp [h1, h2, h3]
      · left; simp [h1, h2, h3]
theorem first_found {ps : List LogP} (h : PsOk ps) {s fs : List ItS} (hs : s.map ItS.core = commitP ps) (hf : fs.map key3 = ps.map key3P) {f : ItS} (hm : f ∈ fs) : s.any (fun x => mtch x f) = true := by
  have h1 : key3 f ∈ ps.map key3P := by rw [← hf]; exact List.mem_map.2 ⟨f, hm, rfl⟩
  obtain ⟨p, hp, he⟩ := List.mem_map.1 h1
  have hc : coreP p ∈ s.map ItS.core := by
    rw [hs]
    exact List.mem_map.2 ⟨p.bucket, mem_keys hp, by rw [at_mem h.nd hp]⟩
  obtain ⟨x, hx, hxe⟩ := List.mem_map.1 hc
  rw [List.any_eq_true]
  refine ⟨x, hx, ?_⟩
  simp only [key3, key3P, Prod.mk.injEq] at he
  obtain ⟨e1, e2, e3⟩ := he
  have f1 : x.bucket = p.bucket := congrArg Core.bucket hxe
  have f2 : x.ver = p.ver := congrArg Core.ver hxe
  have f3 : x.inc = p.inc := congrArg Core.inc hxe
  simp [mtch, f1, f2, f3, e1, e2, e3]
end Go.Proofs.Ytomcekjhehceoaa
