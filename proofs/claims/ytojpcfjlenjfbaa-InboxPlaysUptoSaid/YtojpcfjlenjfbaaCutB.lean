/- GENERAL WORDS, over any program: a list whose head is cut off again and again ('s = s[1:]') and that grows at its end. -/
import Derived.Test.YtojpcfjlenjfbaaCutAt
set_option linter.unusedVariables false
set_option linter.unusedSimpArgs false
namespace Go.Tk
open Go.RowKit
section
variable {α : Type} {P : Program} {st e : TypeId} {size : Nat} {cs : α → List Value} {z : α} {w0 w w' : World} {F : List Nat} {L : List Asn} {l : List α} {A : Asn} {slot : Value}
/-- the slot of such a list, and its memory: empty without room, or the end of a list that lies whole in a block -/
def CutL (e : TypeId) (size : Nat) (cs : α → List Value) (slot : Value) (l : List α) (A : Asn) : Prop :=
  (l = [] ∧ (∃ a, slot = .slice a 0 0) ∧ A = bun []) ∨
  (∃ (g C : Nat) (gone : List α), slot = .slice (some ⟨g, gone.length * size, none⟩) l.length (C - gone.length) ∧ A = listA e size cs (some ⟨g, 0, none⟩) C (gone ++ l) ∧ gone.length < C)
theorem CutL.len (h : CutL e size cs slot l A) : ∃ a c, slot = .slice a l.length c := by
  rcases h with ⟨rfl, ⟨a, rfl⟩, _⟩ | ⟨g, C, gone, rfl, _, _⟩
  · exact ⟨a, 0, rfl⟩
  · exact ⟨_, _, rfl⟩
/-- a row of its own in a new block takes the place of a part -/
theorem Mem.newRow {n : Nat} {v : Value} {l' : List α} (h : Mem w0 F w (A :: L)) (hown : w'.ownsRow w.heap.size e size v n (l'.flatMap cs)) (hgr : w.grownBy w' none) (hn : l'.length = n) (hpos : 0 < n) :
    ∃ g C, v = .slice (some ⟨g, 0, none⟩) n C ∧ n ≤ C ∧ Mem w0 F w' (listA e size cs (some ⟨g, 0, none⟩) C l' :: L) := by
  obtain ⟨hl, hh | ⟨g, cap, cur, rfl, hb, hheap, h1, h2, h3, h4⟩⟩ := hown
  · exact absurd hh.2 (by omega)
  · refine ⟨g, cap, rfl, h1, ?_⟩
    have hlt : g < w'.heap.size := lt_of_heap hheap
    refine h.replace (A' := listA e size cs (some ⟨g, 0, none⟩) cap l') ⟨hgr.os, hgr.tape, hgr.output, hgr.size, fun k hk _ => hgr.block k hk (by simp)⟩ ?_ ?_ ?_
    · subst hn
      exact ⟨hl, .inr ⟨g, cap, cur, rfl, Nat.zero_le _, hheap, h1, h2, h3, h4⟩⟩
    · intro b hb'
      simp [foot_listA, afoot] at hb'
      subst hb'
      exact ⟨.inr hb, hlt⟩
    · simp [foot_listA, afoot]
theorem ElTy.cut_push (T : ElTy P st e size cs z) (hc : CutL e size cs slot l A) (h : Mem w0 F w (A :: L)) (x : α) {ab : Addr} {c2 : Nat} (hsrc : Src w (some ab) size 1 ([x].flatMap cs)) (hn : l.length ≤ 100000) (ty : TypeId) :
    ∃ a' cap' A' w', (Builtin.append_ #[st, st] ty #[slot, .slice (some ab) 1 c2]).run P w = .ok (.slice a' (l.length + 1) cap') w' ∧ CutL e size cs (.slice a' (l.length + 1) cap') (l ++ [x]) A' ∧ Mem w0 F w' (A' :: L) := by
  obtain ⟨i, v, hi, hz, hsz, hby, hvs, _⟩ := T.info
  have hlen1 : ([x].flatMap cs).length = 1 * size := flatMap_len T.len [x]
  obtain ⟨sb, so, hsa, hsc⟩ := hsrc.2 (by omega)
  injection hsa with hsa
  subst hsa
  have hnews : ∀ j u, ([x].flatMap cs)[j]? = some u → w.cell? ((⟨sb, so, none⟩ : Addr).add j) = some u := fun j u hu => by rw [add_none']; exact hsc j u hu
  have hone : ∀ u ∈ [x].flatMap cs, u.oneCell' = true := fun u hu => by
    obtain ⟨b, hb, hub⟩ := List.mem_flatMap.1 hu
    exact T.one b u hub
  have finish : ∀ v' w', (Builtin.append_ #[st, st] ty #[slot, .slice (some ⟨sb, so, none⟩) 1 c2]).run P w = .ok v' w' → w'.ownsRow w.heap.size e size v' (l.length + 1) ((l ++ [x]).flatMap cs) → w.grownBy w' none →
      ∃ a' cap' A' w', (Builtin.append_ #[st, st] ty #[slot, .slice (some ⟨sb, so, none⟩) 1 c2]).run P w = .ok (.slice a' (l.length + 1) cap') w' ∧ CutL e size cs (.slice a' (l.length + 1) cap') (l ++ [x]) A' ∧ Mem w0 F w' (A' :: L) := by
    intro v' w' hrun hown hgr
    obtain ⟨g, C, rfl, hC, hM⟩ := Mem.newRow (l' := l ++ [x]) h hown hgr (by simp) (by omega)
    exact ⟨_, _, _, w', hrun, .inr ⟨g, C, [], by simp, rfl, by simp; omega⟩, hM⟩
  rcases hc with ⟨rfl, ⟨a, rfl⟩, rfl⟩ | ⟨g, C, gone, rfl, rfl, hgC⟩
  · cases a with
    | none =>
      obtain ⟨v', w', hrun, hown, hgr, _, _⟩ := run_append_own_at (P := P) w w.heap.size st ty e i v size i.bytes T.sl hi hz hsz rfl hvs T.pos (.slice none 0 0) 0 [] ⟨by simp, .inl ⟨rfl, rfl⟩⟩ ⟨sb, so, none⟩ 1 c2 ([x].flatMap cs) hlen1 hnews hone (by unfold maxLen; omega) (by omega) (Nat.le_refl _)
      exact finish v' w' hrun (by simpa using hown) hgr
    | some a0 =>
      obtain ⟨v', w', hrun, hown, hgr⟩ := run_append_arg_grows (P := P) (w := w) st ty e i v size i.bytes T.sl hi hz hsz rfl hvs T.pos a0 0 0 [] (by simp) (fun j u hu => by simp at hu) ⟨sb, so, none⟩ 1 c2 ([x].flatMap cs) hlen1 hnews (by omega) (by unfold maxLen; omega) (by omega)
      exact finish v' w' hrun (by simpa using hown) hgr
  · by_cases hroom : l.length + 1 ≤ C - gone.length
    · obtain ⟨w', hrun, hM⟩ := T.app_at h (o := gone.length) (n := l.length) (cap := C - gone.length) (k := gone.length + l.length) rfl (by simp) (by omega) [x] (by simpa using hroom) rfl hsrc (c2 := c2) ty
      refine ⟨_, _, _, w', hrun, .inr ⟨g, C, gone, by simp, rfl, hgC⟩, ?_⟩
      have e1 : (gone ++ l).take (gone.length + l.length) ++ [x] = gone ++ (l ++ [x]) := by
        rw [List.take_of_length_le (by simp), List.append_assoc]
      rw [e1] at hM
      exact hM
    · obtain ⟨tail, ht, h1, h2, hM⟩ := Mem.listOpen h
      have hheap := hM.hold _ (List.mem_cons_self ..)
      obtain ⟨v', w', hrun, hown, hgr⟩ := run_append_arg_grows (P := P) (w := w) st ty e i v size i.bytes T.sl hi hz hsz rfl hvs T.pos ⟨g, gone.length * size, none⟩ l.length (C - gone.length) (l.flatMap cs) (flatMap_len T.len l)
        (fun j u hu => by
          rw [add_none', cell_of_heap hheap, List.getElem?_toArray, List.flatMap_append, List.append_assoc, List.getElem?_append_right (by rw [flatMap_len T.len]; omega), flatMap_len T.len, Nat.add_sub_cancel_left, List.getElem?_append_left (List.getElem?_eq_some_iff.1 hu).1]
          exact hu)
        ⟨sb, so, none⟩ 1 c2 ([x].flatMap cs) hlen1 hnews (by omega) (by unfold maxLen; omega) (Nat.le_trans (Nat.mul_le_mul (show l.length + 1 ≤ 100001 by omega) hby) (by omega))
      exact finish v' w' hrun (by rw [List.flatMap_append]; exact hown) hgr
/-- the head is cut off -/
theorem CutL.tail {x : α} (hc : CutL e size cs slot (x :: l) A) (h : Mem w0 F w (A :: L)) : ∃ (g C k : Nat), slot = .slice (some ⟨g, k * size, none⟩) (l.length + 1) C ∧
    ∃ A', CutL e size cs (.slice (if C = 1 then some ⟨g, k * size, none⟩ else some ⟨g, k * size + 1 * size, none⟩) l.length (C - 1)) l A' ∧ Mem w0 F w (A' :: L) := by
  rcases hc with ⟨h1, _⟩ | ⟨g, C, gone, rfl, rfl, hgC⟩
  · exact absurd h1 (by simp)
  · obtain ⟨g', cur, hg', hh, hlen, _⟩ := listA_some (h.hold _ (List.mem_cons_self ..))
    simp only [List.length_append, List.length_cons] at hlen
    refine ⟨g, C - gone.length, gone.length, rfl, ?_⟩
    by_cases h1 : C - gone.length = 1
    · obtain rfl : l = [] := List.eq_nil_of_length_eq_zero (by omega)
      rw [if_pos h1]
      refine ⟨bun [], .inl ⟨rfl, ⟨_, by rw [h1]; rfl⟩, rfl⟩, Mem.shut (l := []) (h.sub (List.sublist_cons_self _ _))⟩
    · rw [if_neg h1]
      refine ⟨listA e size cs (some ⟨g, 0, none⟩) C ((gone ++ [x]) ++ l), .inr ⟨g, C, gone ++ [x], ?_, rfl, by simp; omega⟩, by simpa using h⟩
      simp only [List.length_append, List.length_cons, List.length_nil, Nat.zero_add, Nat.add_mul, Nat.sub_sub]
end
end Go.Tk
