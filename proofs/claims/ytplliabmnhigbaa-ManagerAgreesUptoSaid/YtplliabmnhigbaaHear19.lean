/- WALK: a manager's Hear. -/
import Derived.Test.YtplliabmnhigbaaVotesE19
set_option linter.unusedVariables false
set_option linter.unusedSimpArgs false
namespace Go.Proofs.Ytplliabmnhigbaa
open Go.RowKit Go.Tk
/-- a learner of three acceptors -/
structure LnOk (l : Learn11) : Prop where
  n : l.n = 3
  nd : (keysOf l.said).Nodup
  key : ∀ q ∈ l.said, 0 ≤ q.1 ∧ q.1 < 3
theorem LnOk.small {l : Learn11} (h : LnOk l) : l.said.length ≤ 3 := by
  have h1 : (l.said.map (fun q => q.1.toNat)).Nodup := natKeys h.nd (fun q hq => (h.key q hq).1)
  have h2 := nodup_le _ (List.range 3) h1 (fun x hx => by
    obtain ⟨q, hq, rfl⟩ := List.mem_map.1 hx
    have := h.key q hq
    rw [List.mem_range]; omega)
  simpa using h2
theorem LnOk.zero : LnOk (newL 3) := ⟨rfl, List.nodup_nil, fun q hq => by simp [newL] at hq⟩
theorem LnOk.accepted {l : Learn11} (h : LnOk l) (f : Int) (b : Ballot) (v : ByteArray) : LnOk (accepted11 l f b v).2.2 := by
  unfold accepted11
  by_cases hc : l.is = true ∨ f < 0 ∨ l.n ≤ f ∨ stale11 l.said f b = true
  · rw [if_pos hc]; exact h
  · rw [if_neg hc]
    simp only [not_or] at hc
    have hn := h.n
    have hk : ∀ q ∈ mset l.said f ⟨b, v⟩, 0 ≤ q.1 ∧ q.1 < 3 := fun q hq => by
      rcases mem_mset hq with rfl | hq
      · simp only; omega
      · exact h.key q hq
    split
    · exact ⟨hn, nodup_mset h.nd _ _, hk⟩
    · exact ⟨hn, nodup_mset h.nd _ _, hk⟩
/-- what a manager comes to that hears, of a transaction that it knows -/
def decideOf (right : Bool) (id : Int) (s : List ItS) (pls : List (Inst × Learn11)) : Int :=
  (decide18 right s.length s.length (fun i => (votesAfter pls s.length (visits id s)).getD i (fun _ => 0)) (incsOf (s.map ItS.r))).1
def hear11 (right : Bool) (id : Int) (s : List ItS) (pls : List (Inst × Learn11)) (d : Int) (bucket replica f : Int) (b : Ballot) (v : ByteArray) : Int × Int × List (Inst × Learn11) × Int :=
  match mget pls ⟨id, bucket, replica, 0⟩ with
  | none => (0, 191, pls, d)
  | some l => if readOf v = 0 then (0, 191, pls, d) else if f < 0 ∨ 3 ≤ f then (0, 1, pls, d) else
    if (accepted11 l f b v).2.1 = false ∨ d ≠ 0 then (0, 0, mset pls ⟨id, bucket, replica, 0⟩ (accepted11 l f b v).2.2, d)
    else (decideOf right id s (mset pls ⟨id, bucket, replica, 0⟩ (accepted11 l f b v).2.2), 0, mset pls ⟨id, bucket, replica, 0⟩ (accepted11 l f b v).2.2, decideOf right id s (mset pls ⟨id, bucket, replica, 0⟩ (accepted11 l f b v).2.2))
theorem lA_Accepted_fam (w : World) (ls : List (Inst × LnM)) (i : Inst) (x : LnM) (f : Int) (b : Ballot) (v : ByteArray) (h : Pre w [fam lnF ls]) (hnd : (keysOf ls).Nodup) (hx : mget ls i = some x) (hok : LnOk x.l) :
    Calls Try.prog 39 #[.pointer (some ⟨x.lb, 0, none⟩), .int .i64 f, b.val, .string v] w (fun e w' => e = .returned (.tuple #[.string (accepted11 x.l f b v).1, .bool (accepted11 x.l f b v).2.1]) ∧ Mem w (foots [fam lnF ls]) w' [fam lnF (mset ls i ⟨x.lb, x.mb, (accepted11 x.l f b v).2.2⟩)]) := by
  obtain ⟨j, hj⟩ := List.mem_iff_getElem?.1 (mget_mem hx)
  have O := Mem.famTake h hj
  refine (lA_Accepted w x.lb x.mb x.l f b v (O.pre [true]) (by rw [hok.n]; omega) (by have := hok.small; omega)).mono ?_
  rintro e w' ⟨rfl, o⟩
  refine ⟨rfl, ?_⟩
  replace O := O.callp [true] o
  simp only [put] at O
  rw [mset_at hnd hj]
  exact Mem.famPut (a' := ((i, (⟨x.lb, x.mb, (accepted11 x.l f b v).2.2⟩ : LnM)) : Inst × LnM)) O (List.getElem?_eq_some_iff.1 hj).1
theorem q_Decide (w : World) (id client m0 m1 m2 : Int) (A : Option Addr) (c : Nat) (s : List ItS) (A2 : Option Addr) (c2 : Nat) (rows : List (Nat → Int)) (hl : s.length ≤ 8) (hn : rows.length = s.length) (hw : (Lit.int .i64 m0).wf = true ∧ (Lit.int .i64 m1).wf = true ∧ (Lit.int .i64 m2).wf = true) (h : Pre w [listA 38 4 rowCells A2 c2 rows, txA A c s]) :
    Calls Try.prog 40 #[.agg #[.int .u64 id, .int .i64 client, .int .i64 m0, .int .i64 m1, .int .i64 m2, .slice A s.length c], .slice A2 s.length c2] w (fun e w' => e = .returned (.tuple #[.int .i64 (decide18 (TxR.mk id client m0 m1 m2 (.slice A s.length c) (s.map ItS.r)).right s.length s.length (fun i => rows.getD i (fun _ => 0)) (incsOf (s.map ItS.r))).1, .int .i64 (decide18 (TxR.mk id client m0 m1 m2 (.slice A s.length c) (s.map ItS.r)).right s.length s.length (fun i => rows.getD i (fun _ => 0)) (incsOf (s.map ItS.r))).2]) ∧ Mem w [] w' []) := by
  have hi : Items w (.slice A s.length c) (s.map ItS.r) := txA_items (by omega) (h.hold (txA A c s) (by simp))
  have hv : Votes w (.slice A2 s.length c2) s.length (fun i => rows.getD i (fun _ => 0)) := by
    refine ⟨by omega, A2, c2, rfl, fun i hi => ?_⟩
    obtain ⟨f, hf⟩ : ∃ f, rows[i]? = some f := ⟨_, List.getElem?_eq_getElem (by omega)⟩
    obtain ⟨g, hA, hr, _, hq⟩ := listA_get rowLen (h.hold (listA 38 4 rowCells A2 c2 rows) (by simp)) hf
    simp only [rowCells, cellsQ, and_true, Nat.add_zero] at hq
    have hgd : rows.getD i (fun _ => 0) = f := by rw [List.getD_eq_getElem?_getD, hf]; rfl
    simp only [hgd]
    exact ⟨g, 0, hA, hr.1, by rw [Nat.zero_add]; exact hq.1, by rw [Nat.zero_add]; exact hq.2.1, by rw [Nat.zero_add]; exact hq.2.2.1, by rw [Nat.zero_add]; exact hq.2.2.2⟩
  have := votes_Decide (TxR.mk id client m0 m1 m2 (.slice A s.length c) (s.map ItS.r)) (.slice A2 s.length c2) s.length (fun i => rows.getD i (fun _ => 0)) w hi hw hv
  simp only [List.length_map] at this
  exact this.mono fun e w' ⟨he, y, hy⟩ => ⟨he, by rw [hy]; exact Mem.begin.ext⟩
/-- an entry is taken out of a manager, and put back -/
theorem mgr_open {w0 w : World} {F : List Nat} {mb mp : Nat} {OA : Option Addr} {oc : Nat} {es : List EntM} {i : Nat} {E : EntM} {L : List Asn} (h : Mem w0 F w (mgrL mb mp OA oc es ++ L)) (hi : es[i]? = some E) :
    Mem w0 F w (E.parts ++ fam entA (es.eraseIdx i) :: .pt mb [.slice OA es.length oc, .map (some mp)] 95 :: listA 22 1 u64Cells OA oc (es.map (·.id)) :: mapA u64K ptrV mp (es.map (fun E => (E.id, E.eb))) :: L) := by
  have O := h
  simp only [mgrL, List.cons_append, List.nil_append] at O
  have O1 := O.perm (L' := fam entA es :: .pt mb [.slice OA es.length oc, .map (some mp)] 95 :: listA 22 1 u64Cells OA oc (es.map (·.id)) :: mapA u64K ptrV mp (es.map (fun E => (E.id, E.eb))) :: L) (by
    refine (List.Perm.cons _ ((List.Perm.cons _ (List.Perm.swap _ _ _)).trans (List.Perm.swap _ _ _))).trans (List.Perm.swap _ _ _))
  exact Mem.open_ (Mem.famTake O1 hi)
theorem map_set_same {α β : Type} {f : α → β} {l : List α} {k : Nat} {a a' : α} (h : l[k]? = some a) (e : f a' = f a) : (l.set k a').map f = l.map f := by
  rw [List.map_set, e]
  apply List.ext_getElem?
  intro i
  rw [List.getElem?_set]
  by_cases hk : k = i
  · subst hk
    have h1 : (l.map f)[k]? = some (f a) := by rw [List.getElem?_map, h]; rfl
    rw [if_pos rfl, h1, if_pos (by rw [List.length_map]; exact (List.getElem?_eq_some_iff.1 h).1)]
  · rw [if_neg hk]
theorem mgr_close {w0 w : World} {F : List Nat} {mb mp : Nat} {OA : Option Addr} {oc : Nat} {es : List EntM} {i : Nat} {E E' : EntM} {L : List Asn} (hi : es[i]? = some E) (hid : E'.id = E.id) (heb : E'.eb = E.eb)
    (h : Mem w0 F w (E'.parts ++ fam entA (es.eraseIdx i) :: .pt mb [.slice OA es.length oc, .map (some mp)] 95 :: listA 22 1 u64Cells OA oc (es.map (·.id)) :: mapA u64K ptrV mp (es.map (fun E => (E.id, E.eb))) :: L)) :
    Mem w0 F w (mgrL mb mp OA oc (es.set i E') ++ L) := by
  have O1 := Mem.famPut (f := entA) (a' := E') (Mem.shut h) (List.getElem?_eq_some_iff.1 hi).1
  have e1 : (es.set i E').map (·.id) = es.map (·.id) := map_set_same hi hid
  have e2 : (es.set i E').map (fun E => (E.id, E.eb)) = es.map (fun E => (E.id, E.eb)) := map_set_same (f := fun E : EntM => (E.id, E.eb)) hi (by simp only [hid, heb])
  simp only [mgrL, List.cons_append, List.nil_append, List.length_set, e1, e2]
  exact O1.perm (by
    refine ((List.Perm.swap _ _ _).trans (List.Perm.cons _ ((List.Perm.swap _ _ _).trans (List.Perm.cons _ (List.Perm.swap _ _ _))))))
end Go.Proofs.Ytplliabmnhigbaa
