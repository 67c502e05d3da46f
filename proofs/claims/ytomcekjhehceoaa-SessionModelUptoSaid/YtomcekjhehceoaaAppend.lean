/-
  GENERAL WORDS on append, over any program: a slice of the call's own ('Own X y ..': a row in the memory that came behind the world X), grown by elements that are read anywhere.
-/
import Derived.Test.YtomcekjhehceoaaKit
import Derived.Maps.AppendAt
import Derived.Laws.OwnMore
import Derived.OwnWalk
set_option linter.unusedVariables false
set_option linter.unusedSimpArgs false
namespace Go.Tk
open Go.RowKit

/-- what a slice holds, cell by cell (nothing is said of its address where it is empty) -/
def Src (w : World) (A : Option Addr) (size m : Nat) (news : List Value) : Prop :=
  news.length = m * size ∧ (0 < m → ∃ b off, A = some ⟨b, off, none⟩ ∧ ∀ j u, news[j]? = some u → w.cell? ⟨b, off + j, none⟩ = some u)
/-- a slice that the call made itself, in the memory behind X -/
def Own (X : World) (y : Ext) (e : TypeId) (size : Nat) (v : Value) (n : Nat) (xs : List Value) : Prop := (X.ext y).ownsRow X.heap.size e size v n xs
theorem add_none' (b o n : Nat) : (⟨b, o, none⟩ : Addr).add n = ⟨b, o + n, none⟩ := by
  unfold Addr.add
  split
  · subst_vars; rfl
  · rfl
section
variable {P : Program} {X w : World} {y : Ext} {e : TypeId} {size : Nat} {v : Value} {n : Nat} {xs : List Value}
theorem Own.nil : Own X y e size (.slice none 0 0) 0 [] := ⟨by simp, .inl ⟨rfl, rfl⟩⟩
theorem Own.grown {z : Ext} {row : Option Nat} (h : Own X y e size v n xs) (hg : (X.ext y).grownBy (X.ext z) row) (hne : ∀ g, v.ownBlock = some g → row ≠ some g) : Own X z e size v n xs := by
  obtain ⟨h1, h2⟩ := h
  refine ⟨h1, ?_⟩
  rcases h2 with h2 | ⟨g, cap, cur, rfl, hb, hh, h3⟩
  · exact .inl h2
  · exact .inr ⟨g, cap, cur, rfl, hb, (hg.block g (Array.getElem?_eq_some_iff.1 hh).1 (fun e => hne g rfl e.symm)).trans hh, h3⟩
/-- kept where more is laid behind -/
theorem Own.more {z : Ext} (h : Own X y e size v n xs) (hw : ∃ q, X.ext z = (X.ext y).ext q) : Own X z e size v n xs := by
  obtain ⟨q, hq⟩ := hw
  refine h.grown (row := none) ?_ (fun g _ => by simp)
  rw [hq]
  exact ⟨rfl, rfl, rfl, by simp [size_ext], fun k hk _ => heap_ext hk⟩
theorem Own.src {A : Option Addr} {c : Nat} (h : Own X y e size (.slice A n c) n xs) : Src (X.ext y) A size n xs := by
  obtain ⟨h1, h2⟩ := h
  refine ⟨h1, fun hn => ?_⟩
  rcases h2 with ⟨_, h0⟩ | ⟨g, cap, cur, hv, hb, hh, h3, h4, h5, h6⟩
  · omega
  · injection hv with e1 e2 e3
    subst e1 e3
    refine ⟨g, 0, rfl, fun j u hu => ?_⟩
    simp only [World.cell?, hh, Nat.zero_add]
    rw [← h6] at hu
    rw [List.getElem?_take] at hu
    split at hu
    · simpa using hu
    · simp at hu
theorem run_append_none (base : Nat) (t ty : TypeId) (i : TypeInfo) (ht : P.underlying t = some (.slice e)) (hi : P.info? e = some i) (hown : w.ownsRow base e size v n xs) (c : Nat) :
    (Builtin.append_ #[t, t] ty #[v, .slice none 0 c]).run P w = .ok v w := by
  rcases hown.2 with ⟨rfl, rfl⟩ | ⟨g, cap, cur, rfl, _, _, hnc, _⟩
  · simp [Builtin.append_, run_underlying ht, sizeOf, typeInfo, hi, Builtin.lenOf, Builtin.firstCells]
  · simp [Builtin.append_, run_underlying ht, sizeOf, typeInfo, hi, Builtin.lenOf, Builtin.firstCells, hnc, storeCells]
/-- 'v = append(v, x...)' -/
theorem wpList_append_ext {ops : Array Oper} {rest : List Oper} {o : Oper} {a : Act} {Q : Exit → Act → World → Prop} (hgd : o.guard = none) (s x : Operand) (t : TypeId)
    (ho : o.op = .call { callee := .builtin .append, args := #[s, x], argTypes := #[t, t] }) (hw : w = X.ext y)
    (i : TypeInfo) (z : Value) (bytes : Nat) (ht : P.underlying t = some (.slice e)) (hi : P.info? e = some i) (hz : i.zero = some z) (hsize : i.size = size) (hby : i.bytes = bytes) (hzs : z.cells.size = size) (hsz : 0 < size)
    (hs : a.eval s = v) (hown : Own X y e size v n xs)
    (A : Option Addr) (m c : Nat) (news : List Value) (hx : a.eval x = .slice A m c) (hsrc : Src w A size m news) (h1 : ∀ u ∈ news, u.oneCell' = true)
    (h63 : n + m ≤ maxLen) (hbytes : (n + m) * bytes ≤ 140737488355328)
    (h : ∀ v' y', Own X y' e size v' (n + m) (xs ++ news) → w.grownBy (X.ext y') v.ownBlock → (v'.ownBlock = v.ownBlock ∨ v'.ownBlock = some w.heap.size) → wpList P ops Q rest (a.put o.dst v') (X.ext y')) : wpList P ops Q (o :: rest) a w := by
  have hb0 : X.heap.size ≤ w.heap.size := by rw [hw, size_ext]; omega
  have hown' : w.ownsRow X.heap.size e size v n xs := by rw [hw]; exact hown
  have key : ∃ v' w', (Builtin.append_ #[t, t] o.type #[v, .slice A m c]).run P w = .ok v' w' ∧ w'.ownsRow X.heap.size e size v' (n + m) (xs ++ news) ∧ w.grownBy w' v.ownBlock ∧ (v'.ownBlock = v.ownBlock ∨ v'.ownBlock = some w.heap.size) := by
    rcases Nat.eq_zero_or_pos m with rfl | hm
    · have hn : news = [] := List.eq_nil_of_length_eq_zero (by simpa using hsrc.1)
      subst hn
      cases A with
      | none => exact ⟨v, w, run_append_none _ t o.type i ht hi hown' c, by simpa using hown', World.grownBy.refl w _, .inl rfl⟩
      | some ad =>
        obtain ⟨v', w', hrun, h2, h3, _, h5⟩ := run_append_own_at (P := P) w X.heap.size t o.type e i z size bytes ht hi hz hsize hby hzs hsz v n xs hown' ad 0 c [] (by simp) (fun j u hu => by simp at hu) h1 h63 hbytes hb0
        exact ⟨v', w', hrun, h2, h3, h5⟩
    · obtain ⟨b, off, rfl, hc⟩ := hsrc.2 hm
      obtain ⟨v', w', hrun, h2, h3, _, h5⟩ := run_append_own_at (P := P) w X.heap.size t o.type e i z size bytes ht hi hz hsize hby hzs hsz v n xs hown' ⟨b, off, none⟩ m c news hsrc.1 (fun j u hu => by rw [add_none']; exact hc j u hu) h1 h63 hbytes hb0
      exact ⟨v', w', hrun, h2, h3, h5⟩
  obtain ⟨v', w', hrun, h2, h3, h4⟩ := key
  have hbel : Below X.heap.size X w' := by
    have hB : Below X.heap.size X w := by rw [hw]; exact below_ext
    refine hB.grown h3 hb0 (fun k hk => ?_)
    rcases hown'.2 with ⟨rfl, _⟩ | ⟨g, cap, cur, rfl, hg, _⟩
    · simp [Value.ownBlock] at hk
    · simp [Value.ownBlock] at hk
      omega
  obtain ⟨y', rfl⟩ := of_below hbel
  refine wpList_plain hgd fun K' hK' => ?_
  unfold Oper.wp execOp
  simp only [ho, resolve, invoke, builtin, Sem.run_bind, Sem.run_pure, Result.andThen_ok, List.map_toArray, List.map_cons, List.map_nil, hs, hx, hrun]
  exact hK' _ _ (h v' y' h2 h3 h4)
theorem Own.at_ {A : Option Addr} {c : Nat} (h : Own X y e size (.slice A n c) n xs) (hn : 0 < n) : ∃ g, A = some ⟨g, 0, none⟩ ∧ X.heap.size ≤ g ∧ g < (X.ext y).heap.size ∧
    ∀ j, j < n * size → (X.ext y).cell? ⟨g, j, none⟩ = xs[j]? ∧ (X.ext y).frozen? ⟨g, j, none⟩ = false := by
  rcases h.2 with ⟨_, h0⟩ | ⟨g, cap, cur, hv, hb, hh, _⟩
  · omega
  · injection hv with e1 e2 e3
    subst e1 e3
    exact ⟨g, rfl, hb, (Array.getElem?_eq_some_iff.1 hh).1, fun j hj => ⟨World.ownsRow.cellAt h j hj, World.ownsRow.frozenAt h j⟩⟩
theorem Own.stored {g c : Nat} (h : Own X y e size (.slice (some ⟨g, 0, none⟩) n c) n xs) (hg : X.heap.size ≤ g) (j : Nat) (u : Value) :
    ∃ z, (X.ext y).setCell ⟨g, j, none⟩ u = X.ext z ∧ Own X z e size (.slice (some ⟨g, 0, none⟩) n c) n (xs.set j u) ∧ (X.ext y).grownBy (X.ext z) (some g) := by
  obtain ⟨h1, h2⟩ := World.ownsRow.stored h j u
  obtain ⟨z, hz⟩ := of_below (w := X) (w' := (X.ext y).setCell ⟨g, j, none⟩ u) (below_ext.setCell hg u)
  rw [hz] at h1 h2
  exact ⟨z, hz, h1, h2⟩
end
end Go.Tk
