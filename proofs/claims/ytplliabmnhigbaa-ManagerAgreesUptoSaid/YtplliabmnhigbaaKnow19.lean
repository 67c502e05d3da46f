/- WALK: a manager's Know, of a transaction that it does not know yet. -/
import Derived.Test.YtplliabmnhigbaaMgr19
set_option linter.unusedVariables false
set_option linter.unusedSimpArgs false
namespace Go.Proofs.Ytplliabmnhigbaa
open Go.RowKit Go.Tk
theorem nodup_visitsAt (id : Int) (k : Nat) (x : ItS) (n : Nat) : ((visitsAt id k x n).map (·.i)).Nodup := by
  unfold visitsAt
  rw [List.map_map]
  rw [List.nodup_iff_pairwise_ne, List.pairwise_map]
  refine (List.nodup_iff_pairwise_ne.1 (List.Pairwise.filter _ List.nodup_range)).imp ?_
  intro a b hab e
  simp only [Function.comp, Inst.mk.injEq, true_and, and_true] at e
  omega
theorem visitsTo_bucket {id : Int} {s : List ItS} {n : Nat} {v : Visit} (h : v ∈ visitsTo id s n) : ∃ j x, j < n ∧ s[j]? = some x ∧ v.i.b = x.bucket := by
  obtain ⟨l, hl, hv⟩ := List.mem_flatten.1 h
  obtain ⟨k, hk, he⟩ := List.mem_filterMap.1 hl
  cases hx : s[k]? with
  | none => rw [hx] at he; simp at he
  | some x =>
    rw [hx] at he
    simp only [Option.map_some, Option.some.injEq] at he
    subst he
    obtain ⟨r, hr, rfl⟩ := List.mem_map.1 hv
    exact ⟨k, x, List.mem_range.1 hk, hx, rfl⟩
theorem nodup_visitsTo (id : Int) (s : List ItS) (h : (s.map (·.bucket)).Nodup) : ∀ n, n ≤ s.length → ((visitsTo id s n).map (·.i)).Nodup
  | 0, _ => by simp [visitsTo]
  | n + 1, hn => by
    have hx : s[n]? = some s[n] := List.getElem?_eq_getElem (by omega)
    rw [visitsTo_succ id s hx, List.map_append, List.nodup_append]
    refine ⟨nodup_visitsTo id s h n (by omega), nodup_visitsAt _ _ _ _, fun a ha b hb e => ?_⟩
    subst e
    obtain ⟨v, hv, rfl⟩ := List.mem_map.1 ha
    obtain ⟨u, hu, e2⟩ := List.mem_map.1 hb
    obtain ⟨j, x, hj, hxj, hb1⟩ := visitsTo_bucket hv
    obtain ⟨r, hr, rfl⟩ := List.mem_map.1 hu
    rw [← e2] at hb1
    simp only at hb1
    have h1 : (s.map (·.bucket))[j]? = some x.bucket := by rw [List.getElem?_map, hxj]; rfl
    have h2 : (s.map (·.bucket))[n]? = some x.bucket := by rw [List.getElem?_map, hx, ← hb1]; rfl
    have := (List.getElem?_inj (by have := (List.getElem?_eq_some_iff.1 h1).1; exact this) h).1 (h1.trans h2.symm)
    omega
theorem nodup_visits (id : Int) (s : List ItS) (h : (s.map (·.bucket)).Nodup) : ((visits id s).map (·.i)).Nodup := nodup_visitsTo id s h _ (Nat.le_refl _)
theorem items_at {w : World} {A : Option Addr} {c : Nat} {s : List ItS} (hl : s.length ≤ 1048576) (h1 : At 8 itCells w A s) (h2 : ∀ x ∈ s, Ents w (.slice x.B x.ents.length x.d) x.ents) : Items w (.slice A s.length c) (s.map ItS.r) := by
  refine ⟨by simpa using hl, A, c, by simp, fun i x hx => ?_⟩
  rw [List.getElem?_map] at hx
  cases hy : s[i]? with
  | none => rw [hy] at hx; simp at hx
  | some y =>
    rw [hy] at hx
    simp only [Option.map_some, Option.some.injEq] at hx
    subst hx
    obtain ⟨b, off, hA, hb, hq⟩ := h1 i y hy
    simp only [itCells, cellsQ, and_true, Nat.add_zero] at hq
    obtain ⟨q0, q1, q2, q3, q4, q5, q6, q7⟩ := hq
    exact ⟨h2 y (List.mem_of_getElem? hy), b, off, hA, hb, q0, q1, q2, q3, q4, q5, q6, q7⟩
theorem listA_atl {α : Type} {e : TypeId} {size : Nat} {cs : α → List Value} {w : World} {A : Option Addr} {c : Nat} {l : List α} (hcs : ∀ a, (cs a).length = size) (h : (listA e size cs A c l).holds w) : At size cs w A l := fun i x hx => by
  obtain ⟨g, hA, hr, _, hq⟩ := listA_get hcs h hx
  exact ⟨g, 0, hA, hr.1, by rw [Nat.zero_add]; exact hq⟩
/-- a transaction's value, its plain form -/
structure TxS where
  id : Int
  client : Int
  m0 : Int
  m1 : Int
  m2 : Int
  A : Option Addr
  c : Nat
  s : List ItS
def TxS.val (t : TxS) : Value := .agg #[.int .u64 t.id, .int .i64 t.client, .int .i64 t.m0, .int .i64 t.m1, .int .i64 t.m2, .slice t.A t.s.length t.c]
def TxS.r (t : TxS) : TxR := ⟨t.id, t.client, t.m0, t.m1, t.m2, .slice t.A t.s.length t.c, t.s.map ItS.r⟩
theorem TxS.rval (t : TxS) : t.r.val = t.val := rfl
structure TxS.At (w : World) (t : TxS) : Prop where
  len : t.s.length ≤ 1048576
  at_ : Go.Proofs.Ytplliabmnhigbaa.At 8 itCells w t.A t.s
  ents : ∀ x ∈ t.s, Ents w (.slice x.B x.ents.length x.d) x.ents
  wid : (Lit.int .u64 t.id).wf = true
  w0 : (Lit.int .i64 t.m0).wf = true
  w1 : (Lit.int .i64 t.m1).wf = true
  w2 : (Lit.int .i64 t.m2).wf = true
theorem TxS.At.fr {w w' : World} {t : TxS} (h : t.At w) (f : Fr [] w w') : t.At w' := ⟨h.len, h.at_.fr f, fun x hx => (h.ents x hx).fr f, h.wid, h.w0, h.w1, h.w2⟩
theorem q_Right (w : World) (t : TxS) (h : t.At w) : Calls Try.prog 32 #[t.val] w (fun e w' => e = .returned (.bool t.r.right) ∧ Mem w [] w' []) :=
  (votes_Right t.r w (items_at h.len h.at_ h.ents) ⟨h.w0, h.w1, h.w2⟩).mono fun e w' ⟨he, y, hy⟩ => ⟨he, by rw [hy]; exact Mem.begin.ext⟩
theorem right_items {l : List ItemR} (h : itemsOk l = true) : ∀ k x, l[k]? = some x → x.right = true ∧ ∀ p, 0 < k → l[k - 1]? = some p → p.bucket < x.bucket := by
  intro k x hx
  unfold itemsOk at h
  rw [List.all_eq_true] at h
  have hk := (List.getElem?_eq_some_iff.1 hx).1
  have := h k (List.mem_range.2 hk)
  unfold itemOkAt at this
  rw [hx] at this
  simp only [Bool.and_eq_true] at this
  refine ⟨this.1, fun p hp hpp => ?_⟩
  obtain ⟨j, rfl⟩ : ∃ j, k = j + 1 := ⟨k - 1, by omega⟩
  simp only [Nat.add_sub_cancel] at hpp
  have h2 := this.2
  simp only [hpp] at h2
  simpa using h2
theorem right_rising {l : List ItemR} (h : itemsOk l = true) : ∀ (d j : Nat) x y, l[j]? = some x → l[j + d + 1]? = some y → x.bucket < y.bucket
  | 0, j, x, y, hx, hy => (right_items h _ y hy).2 x (by omega) (by simpa using hx)
  | d + 1, j, x, y, hx, hy => by
    have hlt := (List.getElem?_eq_some_iff.1 hy).1
    have hz : l[j + d + 1]? = some l[j + d + 1] := List.getElem?_eq_getElem (by omega)
    have h1 := right_rising h d j x _ hx hz
    have h2 := (right_items h _ y hy).2 _ (by omega) (by rw [show j + (d + 1) + 1 - 1 = j + d + 1 by omega]; exact hz)
    omega
theorem right_nodup {s : List ItS} (h : itemsOk (s.map ItS.r) = true) : (s.map (·.bucket)).Nodup := by
  rw [List.nodup_iff_pairwise_ne, List.pairwise_iff_getElem]
  intro i j hi hj hij
  simp only [List.length_map] at hi hj
  simp only [List.getElem_map]
  obtain ⟨d, rfl⟩ : ∃ d, j = i + d + 1 := ⟨j - i - 1, by omega⟩
  have := right_rising h d i (s[i]).r (s[i + d + 1]).r (by simp [hi]) (by simp [hj])
  simp only [ItS.r] at this
  omega
theorem right_bucket {s : List ItS} (h : itemsOk (s.map ItS.r) = true) {x : ItS} (hx : x ∈ s) : 0 ≤ x.bucket ∧ x.bucket < 64 := by
  obtain ⟨k, hk⟩ := List.mem_iff_getElem?.1 hx
  have := (right_items h k x.r (by rw [List.getElem?_map, hk]; rfl)).1
  unfold ItemR.right at this
  simp only [Bool.and_eq_true, decide_eq_true_eq] at this
  exact ⟨this.1.1, this.1.2.1⟩
theorem TxR.right_parts {t : TxR} (h : t.right = true) : t.id ≠ 0 ∧ nodeOk t.client = true ∧ 1 ≤ t.items.length ∧ t.items.length ≤ 8 ∧ itemsOk t.items = true := by
  unfold TxR.right at h
  simp only [Bool.and_eq_true, decide_eq_true_eq] at h
  exact ⟨h.1.1.1.1.1.1.1.1, h.1.1.1.1.1.1.1.2, h.1.1.1.1.1.1.2, h.1.1.1.1.1.2, h.2⟩
/-- the parts while learners are made -/
def knowQ (vb eb lb : Nat) (t : TxS) (A : Option Addr) (c : Nat) (s : List ItS) (done : List Visit) (L : List Asn) : Prop :=
  ∃ lns : List (Inst × LnM), lns.map (fun x => (x.1, x.2.l)) = done.map (fun v => (v.i, newL 3)) ∧
    L = [.pt vb [.pointer (some ⟨eb, 0, none⟩)] 98, .pt eb [.int .u64 t.id, .int .i64 t.client, .int .i64 t.m0, .int .i64 t.m1, .int .i64 t.m2, .slice A s.length c, .map (some lb), .int .i64 0] 101, mapA instKey ptrV lb (lns.map lnPtr), bun [txA A c s, fam lnF lns]]
theorem knowQ_read {vb eb lb : Nat} {t : TxS} {A : Option Addr} {c : Nat} {s : List ItS} : EachRead eb t.id A c s (knowQ vb eb lb t A c s) := by
  rintro done L ⟨lns, _, rfl⟩ W hW
  have hf := Mem.facts hW
  simp only [factsP, cellsP, roomP, foots_cons, foots_nil, foots_append, foot_pt, ptb, ptb_mapA, foot_mapA, factsP_mapA, foot_bun, List.append_nil, List.nil_append, List.cons_append, List.nodup_cons, List.nodup_nil, List.mem_cons, List.not_mem_nil, List.mem_singleton, List.forall_mem_cons, not_or, not_false_eq_true, and_true, true_and, or_false, false_or, forall_eq_or_imp, forall_eq, implies_true, Nat.zero_add, Nat.reduceAdd, and_assoc, factsP_bun, ptb_bun, upd_listA, upd_datasA, upd_txA, upd_mapA, upd_bun, upd_fam, ptb_listA, factsP_listA, Nat.mul_one, ptb_datasA, factsP_datasA, ptb_txA, factsP_txA, itCells, ptb_fam, factsP_fam, ptb_learnA, factsP_learnA] at hf
  obtain ⟨_, _, _, _, _, _, _, _, f⟩ := hf
  have hb : (bun [txA A c s, fam lnF lns]).holds W := hW.hold _ (by simp)
  have ht : (txA A c s).holds W := hb _ (by simp)
  have hi : (itemsA A c s).holds W := ht _ (by simp [txL])
  refine ⟨roomP_of (hW.lt eb (by simp [foots_cons, foot_pt])), ?_, ?_, listA_atl itLen hi⟩
  · have := hW.ptCell (b := eb) (j := 0) (List.mem_cons_of_mem _ (List.mem_cons_self ..)) rfl; exact this
  · have := hW.ptCell (b := eb) (j := 5) (List.mem_cons_of_mem _ (List.mem_cons_self ..)) rfl; exact this
theorem keys_lns {lns : List (Inst × LnM)} {done : List Visit} (h : lns.map (fun x => (x.1, x.2.l)) = done.map (fun v => (v.i, newL 3))) : keysOf (lns.map lnPtr) = done.map (·.i) := by
  have := congrArg (List.map (fun x : Inst × Learn11 => x.1)) h
  simpa [keysOf, lnPtr, Function.comp_def] using this
theorem know_step (vb eb lb : Nat) (t : TxS) (A : Option Addr) (c : Nat) (s : List ItS) (hid : (Lit.int .u64 t.id).wf = true) (hnd : (s.map (·.bucket)).Nodup) (hbk : ∀ x ∈ s, 0 ≤ x.bucket ∧ x.bucket < 64) :
    ∀ done v rest, visits t.id s = done ++ v :: rest → ∀ L W, knowQ vb eb lb t A c s done L → Pre W L → Calls Try.prog 36 (#[.int .i64 v.k, .int .i64 v.r, v.i.val] ++ #[.pointer (some ⟨vb, 0, none⟩)]) W (fun e W' => e = .returned (.tuple #[]) ∧ ∃ L', knowQ vb eb lb t A c s (done ++ [v]) L' ∧ Mem W (foots L) W' L') := by
  rintro done v rest hv L W ⟨lns, hl, rfl⟩ hW
  have hmem : v ∈ visits t.id s := by rw [hv]; simp
  obtain ⟨x, hx, hr, _, hi⟩ := visits_mem hmem
  have hxb := hbk x (List.mem_of_getElem? hx)
  have hwf : v.i.wf := by
    rw [hi]
    exact instWf hid (by simp [Lit.wf, IntKind.min, IntKind.max, IntKind.signed, IntKind.bits]; omega) (by omega)
  have hnew : mget (lns.map lnPtr) v.i = none := by
    rw [mget_none, keys_lns hl]
    have := nodup_visits t.id s hnd
    rw [hv, List.map_append, List.map_cons] at this
    have h3 := (List.nodup_append.1 this).2.2
    intro hin
    exact h3 _ hin _ (List.mem_cons_self ..) rfl
  refine (m_know1 W vb eb lb t.id t.client t.m0 t.m1 t.m2 A c s.length 0 (lns.map lnPtr) (bun [txA A c s, fam lnF lns]) v.k v.r v.i hwf hW).mono ?_
  rintro e W' ⟨rfl, lb', mb', O⟩
  refine ⟨rfl, _, ⟨lns ++ [(v.i, ⟨lb', mb', newL 3⟩)], by simp [hl], rfl⟩, ?_⟩
  rw [mset_new hnew] at O
  simp only [List.map_append, List.map_cons, List.map_nil]
  have e1 : lnPtr (v.i, ⟨lb', mb', newL 3⟩) = (v.i, lb') := rfl
  rw [e1]
  generalize foots _ = fp at O ⊢
  replace O := (((((O).front [false, false, true]).front [false, false, true]).front [false, false, true]).front [false, false, false, false, true]).front [false, false, false, false, true]
  simp only [Tk.sel, rst, List.cons_append, List.nil_append] at O
  replace O := O.sel [true, true, true, true, true]
  simp only [Tk.sel] at O
  replace O := Mem.open_ O
  simp only [List.cons_append, List.nil_append] at O
  replace O := ((((((O).front [false, false, false, false, false, true]).front [false, false, false, false, false, true]).front [false, false, false, false, false, true]).front [false, false, false, true]).front [false, false, false, false, true]).front [false, false, false, false, false, true]
  simp only [Tk.sel, rst, List.cons_append, List.nil_append] at O
  replace O := O.sel [true, true, true, true, true, true]
  simp only [Tk.sel] at O
  have O2 : Mem W fp W' (fam lnF (lns ++ [(v.i, ⟨lb', mb', newL 3⟩)]) :: [txA A c s, .pt vb [.pointer (some ⟨eb, 0, none⟩)] 98, .pt eb [.int .u64 t.id, .int .i64 t.client, .int .i64 t.m0, .int .i64 t.m1, .int .i64 t.m2, .slice A s.length c, .map (some lb), .int .i64 0] 101, mapA instKey ptrV lb (lns.map lnPtr ++ [(v.i, lb')])]) := Mem.famSnoc (a := ((v.i, (⟨lb', mb', newL 3⟩ : LnM)) : Inst × LnM)) O
  clear O
  have O := O2
  clear O2
  replace O := (((((O).front [false, false, false, false, true]).front [false, false, false, false, true]).front [false, false, false, false, true]).front [false, false, false, true]).front [false, false, false, false, true]
  simp only [Tk.sel, rst, List.cons_append, List.nil_append] at O
  replace O := O.sel [true, true, true, true, true]
  simp only [Tk.sel] at O
  replace O := Mem.shut (l := [txA A c s, fam lnF (lns ++ [(v.i, ⟨lb', mb', newL 3⟩)])]) O
  replace O := ((((O).front [true]).front [false, false, false, true]).front [false, false, false, true]).front [false, false, false, true]
  simp only [Tk.sel, rst, List.cons_append, List.nil_append] at O
  replace O := O.sel [true, true, true, true]
  simp only [Tk.sel] at O
  exact O
end Go.Proofs.Ytplliabmnhigbaa
