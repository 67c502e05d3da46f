/-
  GENERAL WORDS: what a law's arguments read as ('Typed': cells of a type, slices and texts at most N long, all the way down), out of the row's own reading and its bound; the row's last step out of a walk that answers true and leaves all that was there as it was.
-/
import Derived.Test.YtomcekjhehceoaaRows
import Derived.Test.YtomcekjhehceoaaKit
import Derived.ProofKit
import Derived.JoinedCond
import Derived.OpenShut
import Derived.Deep.Slices
set_option linter.unusedVariables false
set_option linter.unusedSimpArgs false
namespace Go.Proofs.Ytomcekjhehceoaa
open Go.RowKit Go.WideShapes Go.ChangeShapes Go.Tk

section
variable {H : Type} {enc : TypeId × Value → H} {P : Program}
theorem post_of_below {f : Func} {s : ChangeSpec} {apart fresh handsOn again : Bool} {W W' : World} {args : Array Value} {v : Value} {ds gs : List (DataW H)} {before pa pv : List MemPlace}
    (hW : DataW.Whole enc P f.params.toList s.vars apart W args.toList ds gs before)
    (hres : ∀ (b : Nat) (sp : Nat → Bool) (hd : Bool), DataW.TrodAll enc P W' b sp hd f.resultTypes.toList (v.resultList f.resultTypes.size) (s.fn H (ds ++ gs)).results [])
    (hargs : ∀ sp : Nat → Bool, (∀ p ∈ before, sp p.block = true) → DataW.TrodAll enc P W' 0 sp true f.params.toList args.toList (s.fn H (ds ++ gs)).args pa)
    (hvars : ∀ sp : Nat → Bool, (∀ p ∈ before, sp p.block = true) → DataW.TrodVars enc P W' sp s.vars (s.fn H (ds ++ gs)).vars pv)
    (hps : before = pa ++ pv) (hb : Below W.heap.size W W')
    (hok : ∀ (j : Nat) (t : TypeId) (r : Value), f.resultTypes[j]? = some t → (v.resultList f.resultTypes.size)[j]? = some r → Value.okWide P W' .any 0 t r) :
    s.post enc P f apart fresh handsOn again W args v W' := by
  have hlt : ∀ p ∈ before, p.block < W.heap.size := fun p hp => hW.lt p hp
  have hold : ∀ p ∈ before, (fun b => decide (b < W.heap.size)) p.block = true := fun p hp => by simpa using hlt p hp
  refine ⟨ds, gs, before, [], pa, pv, hW, hres _ _ _, hargs _ hold, hvars _ hold, World.keptBut_mono (fun p hp => ⟨hp, ?_⟩) (hb.frame (· ∈ before)), fun _ => ?_⟩
  · rw [hps, List.mem_append] at hp
    exact Or.inr hp
  · obtain ⟨_, _, _, _, _, hz, hn⟩ := hW
    refine ⟨hok, _, _, ([] ++ pa) ++ pv, ⟨[] ++ pa, pv, trodAll_append (hargs _ (fun _ _ => rfl)) (hres _ _ _), hvars _ (fun _ _ => rfl), rfl, ?_, ?_⟩, ?_⟩
    · intro b off hp
      have hin : MemPlace.cell b off ∈ before := by rw [hps]; simpa using hp
      rw [hb.frozen (hlt _ hin)]
      exact hz b off hin
    · intro ha
      have := hn ha
      rw [hps] at this
      simpa using this
    · intro p hp _
      rw [hps]
      simpa using hp

/-- all arguments, read again where nothing of them has turned -/
theorem trodAll_stays (hl : laidOutB P = true) {W W' : World} (hb : Below W.heap.size W W') : ∀ (ts : List TypeId) (vs : List Value) (ds : List (DataW H)) (ps : List MemPlace),
    (∀ t ∈ ts, P.readableRec t = true ∧ t < P.types.size) → DataW.TrodAll enc P W 0 (fun _ => true) true ts vs ds ps → (∀ x ∈ ps, x.block < W.heap.size) →
    ∀ sp : Nat → Bool, (∀ p ∈ ps, sp p.block = true) → DataW.TrodAll enc P W' 0 sp true ts vs ds ps
  | [], [], [], _, _, h, _, _, _ => h
  | t :: ts, v :: vs, d :: ds, ps, hr, h, hlt, sp, hsp => by
    obtain ⟨p, q, h1, h2, rfl⟩ := h
    refine ⟨p, q, ?_, trodAll_stays hl hb ts vs ds q (fun t ht => hr t (List.mem_cons_of_mem _ ht)) h2 (fun x hx => hlt x (List.mem_append_right _ hx)) sp (fun x hx => hsp x (List.mem_append_right _ hx)), rfl⟩
    obtain ⟨hr1, hr2⟩ := hr t (List.mem_cons_self ..)
    exact WideElems.Trod_stays hl hr1 hr2 h1 (fun x hx => hb.same (hlt x (List.mem_append_left _ hx))) (fun x hx => hsp x (List.mem_append_left _ hx))
  | [], [], _ :: _, _, _, h, _, _, _ => h.elim
  | [], _ :: _, _, _, _, h, _, _, _ => h.elim
  | _ :: _, [], _, _, _, h, _, _, _ => h.elim
  | _ :: _, _ :: _, [], _, _, h, _, _, _ => h.elim
theorem trodAll_len : ∀ (ts : List TypeId) (vs : List Value) (ds : List (DataW H)) (ps : List MemPlace) {W : World} {b : Nat} {sp : Nat → Bool} {hd : Bool}, DataW.TrodAll enc P W b sp hd ts vs ds ps → ds.length = ts.length
  | [], [], [], _, _, _, _, _, _ => rfl
  | t :: ts, v :: vs, d :: ds, ps, _, _, _, _, h => by
    obtain ⟨p, q, h1, h2, rfl⟩ := h
    simp [trodAll_len ts vs ds q h2]
  | [], [], _ :: _, _, _, _, _, _, h => h.elim
  | [], _ :: _, _, _, _, _, _, _, h => h.elim
  | _ :: _, [], _, _, _, _, _, _, h => h.elim
  | _ :: _, _ :: _, [], _, _, _, _, _, h => h.elim

/-- THE ROW's LAST STEP: a walk that answers true and leaves all that was there as it was. -/
theorem post_of_walk {fn : Func} {s : ChangeSpec} {boolT : TypeId} {n : Nat} (hvars : s.vars = []) (hfn : ∀ ds : List (DataW H), ds.length = n → (s.fn H ds).results = [.lit (.bool true)] ∧ (s.fn H ds).args = ds ∧ (s.fn H ds).vars = [])
    (hn : fn.params.toList.length = n) (hres : fn.resultTypes = #[boolT]) (hbt : P.underlying boolT = some .bool) (hl : laidOutB P = true) (hr : ∀ t ∈ fn.params.toList, P.readableRec t = true ∧ t < P.types.size)
    {W W' : World} {args : Array Value} {ds gs : List (DataW H)} {before : List MemPlace} (hW : DataW.Whole enc P fn.params.toList s.vars false W args.toList ds gs before) (hb : Below W.heap.size W W') :
    s.post enc P fn false true false false W args (.bool true) W' := by
  have hW0 := hW
  obtain ⟨p, q, hA, hV, rfl, hfz, hnd⟩ := hW
  have hlen := trodAll_len _ _ _ _ hA
  rw [hvars] at hV
  have hgs : gs = [] ∧ q = [] := by
    cases gs with
    | nil => exact ⟨rfl, hV⟩
    | cons a b => exact hV.elim
  obtain ⟨rfl, rfl⟩ := hgs
  obtain ⟨f1, f2, f3⟩ := hfn (ds ++ []) (by simp [hlen, hn])
  have hlt : ∀ x ∈ p, x.block < W.heap.size := fun x hx => hW0.lt x (by simp [hx])
  refine post_of_below (pa := p) (pv := []) hW0 ?_ ?_ ?_ rfl hb ?_
  · intro b sp hd
    rw [f1, hres]
    exact trodAll_cons_mk (p := []) (p' := []) (shut_bool hbt true) trodAll_mk0
  · intro sp hsp
    rw [f2, List.append_nil]
    exact trodAll_stays hl hb _ _ _ _ hr hA hlt sp (fun x hx => hsp x (by simp [hx]))
  · intro sp hsp
    rw [f3, hvars]
    rfl
  · exact ok_one hres rfl (okWide_bool_mk hbt _)
end

/-! ### what is read: cells of a type -/
def Typed (P : Program) (w : World) (N : Nat) : Nat → TypeId → List Value → Prop
  | 0, _, _ => False
  | f + 1, t, cs => match P.underlying t with
    | some .bool => ∃ b, cs = [.bool b]
    | some (.int k) => ∃ n, cs = [.int k n] ∧ (Lit.int k n).wf = true
    | some .string => ∃ s : ByteArray, cs = [.string s] ∧ s.size ≤ N
    | some (.slice e) => cs = [.slice none 0 0] ∨ ∃ a len cap, cs = [.slice (some a) len cap] ∧ len ≤ cap ∧ cap ≤ N ∧
        ∀ i, i < len → ∃ cs', cs'.length = P.cellsOf e ∧ (∀ j u, cs'[j]? = some u → w.cell? (a.add (i * P.cellsOf e + j)) = some u) ∧ Typed P w N f e cs'
    | some (.struct fs) => cs.length = P.cellsOf t ∧ ∀ (i : Nat) (g : Field), fs[i]? = some g → Typed P w N f g.type ((cs.drop g.offset).take (P.cellsOf g.type))
    | some (.array n e) => cs.length = P.cellsOf t ∧ ∀ i, i < n → Typed P w N f e ((cs.drop (i * P.cellsOf e)).take (P.cellsOf e))
    | _ => True
theorem bulk_pos {H : Type} (d : DataW H) : 1 ≤ Rows.uptoBulk d := by
  cases d with
  | lit l => cases l <;> simp [Rows.uptoBulk]
  | nil => simp [Rows.uptoBulk]
  | ptr d => simp [Rows.uptoBulk]
  | slice elems spare => simp [Rows.uptoBulk]
  | agg parts => simp [Rows.uptoBulk]
  | iface t d => simp [Rows.uptoBulk]
  | map entries => simp [Rows.uptoBulk]
  | held h => simp [Rows.uptoBulk]
theorem bulk_part {H : Type} {d : DataW H} {l : List (DataW H)} (h : d ∈ l) : Rows.uptoBulk d ≤ Rows.uptoBulkAll l := by
  induction l with
  | nil => cases h
  | cons x r ih =>
    simp only [Rows.uptoBulkAll]
    cases List.mem_cons.1 h with
    | inl e => subst e; omega
    | inr e => have := ih e; omega
theorem bulk_len {H : Type} (l : List (DataW H)) : l.length ≤ Rows.uptoBulkAll l := by
  induction l with
  | nil => simp [Rows.uptoBulkAll]
  | cons x r ih => have := bulk_pos x; simp only [Rows.uptoBulkAll, List.length_cons]; omega
theorem typed_of_trod {H : Type} {enc : TypeId × Value → H} {P : Program} {w : World} {N : Nat} : ∀ (f : Nat) (t : TypeId) (cs : List Value) (x : DataW H × List MemPlace),
    DataW.trod enc P w 0 (fun _ => true) true f t cs = some x → Rows.uptoBulk x.1 ≤ N → Typed P w N f t cs
  | 0, _, _, _, h, _ => by simp [DataW.trod] at h
  | f + 1, t, cs, x, h, hN => by
    unfold Typed
    split
    · rename_i ht
      obtain ⟨b, rfl, _⟩ := DataW.trod_bool ht h
      exact ⟨b, rfl⟩
    · rename_i k ht
      obtain ⟨n, rfl, _, hw⟩ := DataW.trod_int ht h
      exact ⟨n, rfl, hw⟩
    · rename_i ht
      obtain ⟨s, rfl, rfl, hm⟩ := DataW.trod_string ht h
      refine ⟨s, rfl, ?_⟩
      simp only [Rows.uptoBulk] at hN
      have e : s.data.toList.length = s.size := by rw [Array.length_toList]; rfl
      omega
    · rename_i e ht
      rcases DataW.trod_slice ht h with ⟨rfl, _⟩ | ⟨a, len, cap, elems, rest, n, hf, rfl, rfl, hb, hl, hc, hel, hi, hr, _⟩
      · exact .inl rfl
      · obtain rfl : f = n := by omega
        simp only [Rows.uptoBulk] at hN
        have h1 := bulk_len (elems.map (·.1))
        have h2 := bulk_len (rest.map (·.1))
        obtain ⟨hr1, _⟩ := hr rfl
        simp only [List.length_map] at h1 h2
        refine .inr ⟨a, len, cap, rfl, hl, by omega, fun i hlt => ?_⟩
        have hi' := hi i hlt
        have hget : elems[i]? = some (elems[i]'(by omega)) := List.getElem?_eq_getElem (by omega)
        rw [hget, Option.bind_eq_some_iff] at hi'
        obtain ⟨cs', hc1, hc2⟩ := hi'
        obtain ⟨_, hcl, hat⟩ := World.cells?_some hc1
        refine ⟨cs', hcl, fun j u hu => ?_, typed_of_trod f e cs' _ hc2 ?_⟩
        · have hj : j < P.cellsOf e := by rw [← hcl]; exact (List.getElem?_eq_some_iff.1 hu).1
          have := hat j hj
          rw [Go.Deep.add_add] at this
          rw [this]
          exact hu
        · have := bulk_part (d := (elems[i]'(by omega)).1) (l := elems.map (·.1)) (List.mem_map_of_mem (List.getElem_mem _))
          omega
    · rename_i fs ht
      obtain ⟨xs, n, hf, rfl, hlen, hxl, hfl⟩ := DataW.trod_struct ht h
      obtain rfl : f = n := by omega
      refine ⟨hlen, fun i g hg => ?_⟩
      have h1 := hfl i g hg
      have hlt : i < fs.size := (Array.getElem?_eq_some_iff.1 hg).1
      have hget : xs[i]? = some (xs[i]'(by omega)) := List.getElem?_eq_getElem (by omega)
      rw [hget] at h1
      refine typed_of_trod f _ _ _ h1 ?_
      have := bulk_part (d := (xs[i]'(by omega)).1) (l := xs.map (·.1)) (List.mem_map_of_mem (List.getElem_mem _))
      simp only [Rows.uptoBulk] at hN
      omega
    · rename_i n e ht
      obtain ⟨xs, m, hf, rfl, hlen, hxl, hfl⟩ := DataW.trod_array ht h
      obtain rfl : f = m := by omega
      refine ⟨hlen, fun i hlt => ?_⟩
      have h1 := hfl i hlt
      have hget : xs[i]? = some (xs[i]'(by omega)) := List.getElem?_eq_getElem (by omega)
      rw [hget] at h1
      refine typed_of_trod f _ _ _ h1 ?_
      have := bulk_part (d := (xs[i]'(by omega)).1) (l := xs.map (·.1)) (List.mem_map_of_mem (List.getElem_mem _))
      simp only [Rows.uptoBulk] at hN
      omega
    · trivial
section
variable {P : Program} {w : World} {N f : Nat} {t e : TypeId} {cs : List Value}
theorem typed_bool (ht : P.underlying t = some .bool) (h : Typed P w N f t cs) : ∃ b, cs = [.bool b] := by
  cases f with
  | zero => exact h.elim
  | succ f => unfold Typed at h; rw [ht] at h; exact h
theorem typed_int {k : IntKind} (ht : P.underlying t = some (.int k)) (h : Typed P w N f t cs) : ∃ n, cs = [.int k n] ∧ (Lit.int k n).wf = true := by
  cases f with
  | zero => exact h.elim
  | succ f => unfold Typed at h; rw [ht] at h; exact h
theorem typed_string (ht : P.underlying t = some .string) (h : Typed P w N f t cs) : ∃ s : ByteArray, cs = [.string s] ∧ s.size ≤ N := by
  cases f with
  | zero => exact h.elim
  | succ f => unfold Typed at h; rw [ht] at h; exact h
theorem typed_struct {fs : Array Field} (ht : P.underlying t = some (.struct fs)) (h : Typed P w N f t cs) : ∃ f', cs.length = P.cellsOf t ∧ ∀ (i : Nat) (g : Field), fs[i]? = some g → Typed P w N f' g.type ((cs.drop g.offset).take (P.cellsOf g.type)) := by
  cases f with
  | zero => exact h.elim
  | succ f => unfold Typed at h; rw [ht] at h; exact ⟨f, h⟩
theorem typed_array {n : Nat} (ht : P.underlying t = some (.array n e)) (h : Typed P w N f t cs) : ∃ f', cs.length = P.cellsOf t ∧ ∀ i, i < n → Typed P w N f' e ((cs.drop (i * P.cellsOf e)).take (P.cellsOf e)) := by
  cases f with
  | zero => exact h.elim
  | succ f => unfold Typed at h; rw [ht] at h; exact ⟨f, h⟩
theorem addr_of_cell {a : Addr} {v : Value} (h : w.cell? a = some v) : a = ⟨a.block, a.off, none⟩ ∧ a.block < w.heap.size := by
  obtain ⟨b, o, s⟩ := a
  unfold World.cell? at h
  simp only at h
  split at h
  · rename_i c hc
    cases s with
    | none => exact ⟨rfl, (Array.getElem?_eq_some_iff.1 hc).1⟩
    | some x => simp at h
  · simp at h
theorem add_none (b o n : Nat) : (⟨b, o, none⟩ : Addr).add n = ⟨b, o + n, none⟩ := by
  unfold Addr.add
  split
  · subst_vars; rfl
  · rfl
theorem typed_slice (ht : P.underlying t = some (.slice e)) (he : 0 < P.cellsOf e) (h : Typed P w N f t cs) :
    ∃ A len cap f', cs = [.slice A len cap] ∧ len ≤ N ∧ ∀ i, i < len → ∃ b off cs', A = some ⟨b, off, none⟩ ∧ b < w.heap.size ∧ cs'.length = P.cellsOf e ∧
      (∀ j u, cs'[j]? = some u → w.cell? ⟨b, off + i * P.cellsOf e + j, none⟩ = some u) ∧ Typed P w N f' e cs' := by
  cases f with
  | zero => exact h.elim
  | succ f =>
    unfold Typed at h
    rw [ht] at h
    rcases h with rfl | ⟨a, len, cap, rfl, hl, hc, hi⟩
    · exact ⟨none, 0, 0, f, rfl, by omega, fun i hi => by omega⟩
    · refine ⟨some a, len, cap, f, rfl, by omega, fun i hlt => ?_⟩
      obtain ⟨cs0, hl0, hc0, _⟩ := hi 0 (by omega)
      have h00 := hc0 0 _ (List.getElem?_eq_getElem (by omega))
      have e0 : a.add (0 * P.cellsOf e + 0) = a := by simp [Addr.add]
      rw [e0] at h00
      obtain ⟨ha, hb⟩ := addr_of_cell h00
      obtain ⟨cs', h1, h2, h3⟩ := hi i hlt
      refine ⟨a.block, a.off, cs', by rw [← ha], hb, h1, fun j u hu => ?_, h3⟩
      have := h2 j u hu
      rw [ha, add_none] at this
      rw [Nat.add_assoc]
      exact this
/-- from 'for every i < n there is an x' to a list -/
theorem list_of_all {α : Type} {n : Nat} {R : Nat → α → Prop} (h : ∀ i, i < n → ∃ x, R i x) : ∃ l : List α, l.length = n ∧ ∀ i x, l[i]? = some x → R i x := by
  induction n with
  | zero => exact ⟨[], rfl, fun i x hx => by simp at hx⟩
  | succ n ih =>
    obtain ⟨l, h1, h2⟩ := ih (fun i hi => h i (by omega))
    obtain ⟨x, hx⟩ := h n (by omega)
    refine ⟨l ++ [x], by simp [h1], fun i y hy => ?_⟩
    rw [List.getElem?_append] at hy
    split at hy
    · exact h2 i y hy
    · rename_i hlt
      have hi : i = n := by
        have := (List.getElem?_eq_some_iff.1 hy).1
        simp at this; omega
      subst hi
      simp [h1] at hy
      rw [← hy]
      exact hx
end
end Go.Proofs.Ytomcekjhehceoaa
