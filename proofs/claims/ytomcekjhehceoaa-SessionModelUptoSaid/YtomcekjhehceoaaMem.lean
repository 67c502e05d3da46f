/-
  GENERAL WORDS, over any program: what a call owns, as a list of parts ('Mem w0 F w L'): of the world w0 in which the call began at most the blocks F have changed; the parts L hold in w, no block belongs to two of them.
-/
import Derived.Test.YtomcekjhehceoaaHeap
import Derived.StillTailTactics
import Derived.Deep.DeepCutAuto
import Derived.Deep.RegionWith
import Derived.Deep.CutBlock
import Derived.Deep.RegionHeld3
import Derived.Deep.DrawnRows
set_option linter.unusedVariables false
set_option linter.unusedSimpArgs false
namespace Go.Tk
open Go.RowKit

theorem size_drewN {w : World} {n : Nat} : (w.drewN n).heap.size = w.heap.size := rfl
theorem ne_lt0 {b s : Nat} (h : b < s) : (s = b) = False := by simp; omega
theorem ne_lt1 {b s n : Nat} (h : b < s) : (s + n = b) = False := by simp; omega
theorem ne_lt2 {b s n m : Nat} (h : b < s) : (s + n + m = b) = False := by simp; omega
theorem ne_lt3 {b s n m k : Nat} (h : b < s) : (s + n + m + k = b) = False := by simp; omega
theorem ne_lt4 {b s n m k l : Nat} (h : b < s) : (s + n + m + k + l = b) = False := by simp; omega
inductive Asn where
  | pt (b : Nat) (cs : List Value) (t : TypeId)
  | mk (foot : List Nat) (holds : World → Prop) (loc : ∀ w w' : World, (∀ b ∈ foot, w'.heap[b]? = w.heap[b]?) → holds w → holds w')
def Asn.foot : Asn → List Nat
  | .pt b _ _ => [b]
  | .mk f _ _ => f
def Asn.holds : Asn → World → Prop
  | .pt b cs t, w => w.heap[b]? = some (.cells cs.toArray t (0, 0))
  | .mk _ h _, w => h w
theorem Asn.loc {A : Asn} {w w' : World} (h : ∀ b ∈ A.foot, w'.heap[b]? = w.heap[b]?) (hw : A.holds w) : A.holds w' := by
  cases A with
  | pt b cs t => exact (h b (by simp [Asn.foot])).trans hw
  | mk f p l => exact l w w' h hw
def foots (L : List Asn) : List Nat := L.flatMap Asn.foot
@[simp] theorem foots_nil : foots [] = [] := rfl
@[simp] theorem foots_cons {A : Asn} {L : List Asn} : foots (A :: L) = A.foot ++ foots L := rfl
@[simp] theorem foots_append {L L' : List Asn} : foots (L ++ L') = foots L ++ foots L' := by simp [foots]
theorem mem_foots {A : Asn} {L : List Asn} {b : Nat} (h : A ∈ L) (hb : b ∈ A.foot) : b ∈ foots L := by simp only [foots, List.mem_flatMap]; exact ⟨A, h, hb⟩

/-- of the world w at most the blocks F have changed -/
structure Fr (F : List Nat) (w w' : World) : Prop where
  os : w'.os = w.os
  tape : w'.tape = w.tape
  output : w'.output = w.output
  size : w.heap.size ≤ w'.heap.size
  block : ∀ k, k < w.heap.size → k ∉ F → w'.heap[k]? = w.heap[k]?
theorem Fr.refl {F : List Nat} {w : World} : Fr F w w := ⟨rfl, rfl, rfl, Nat.le_refl _, fun _ _ _ => rfl⟩
theorem Fr.trans {F G : List Nat} {w w' w'' : World} (h : Fr F w w') (h' : Fr G w' w'') (hs : ∀ b ∈ G, b ∈ F ∨ w.heap.size ≤ b) : Fr F w w'' :=
  ⟨h'.os.trans h.os, h'.tape.trans h.tape, h'.output.trans h.output, Nat.le_trans h.size h'.size, fun k hk hn => (h'.block k (Nat.lt_of_lt_of_le hk h.size) (fun hg => by
    rcases hs k hg with h1 | h1
    · exact hn h1
    · omega)).trans (h.block k hk hn)⟩
theorem Fr.below {F : List Nat} {w w' : World} (h : Fr F w w') (hF : F = []) : Below w.heap.size w w' := by
  subst hF
  exact ⟨h.os, h.tape, h.output, h.size, fun k hk => h.block k hk (by simp)⟩
theorem Fr.cell {w w' : World} (h : Fr [] w w') {b o : Nat} (hb : b < w.heap.size) : w'.cell? ⟨b, o, none⟩ = w.cell? ⟨b, o, none⟩ := World.cell?_of_block (h.block b hb (by simp))
theorem Fr.of_below {F : List Nat} {w w' : World} (h : Below w.heap.size w w') : Fr F w w' := ⟨h.os, h.tape, h.output, h.size, fun k hk _ => h.block k hk⟩
theorem Fr.of_kept {mb : Nat} {w w' : World} (h : Kept mb w w') : Fr [mb] w w' := ⟨h.os, h.tape, h.output, h.size, fun k hk hn => h.block k hk (by simpa using hn)⟩

structure Mem (w0 : World) (F : List Nat) (w : World) (L : List Asn) : Prop where
  fr : Fr F w0 w
  hold : ∀ A ∈ L, A.holds w
  lt : ∀ b ∈ foots L, b < w.heap.size
  mine : ∀ b ∈ foots L, b ∈ F ∨ w0.heap.size ≤ b
  nodup : (foots L).Nodup
section
variable {w0 w w' : World} {F : List Nat} {L : List Asn}
theorem Mem.begin : Mem w [] w [] := ⟨Fr.refl, fun _ h => (nomatch h), fun _ h => (nomatch h), fun _ h => (nomatch h), List.nodup_nil⟩
theorem Mem.alloc (h : Mem w0 F w L) (cs : List Value) (t : TypeId) : Mem w0 F (w.alloc (.cells cs.toArray t (0, 0))) (.pt w.heap.size cs t :: L) := by
  have hk : ∀ k, k < w.heap.size → (w.alloc (.cells cs.toArray t (0, 0))).heap[k]? = w.heap[k]? := fun k hk => Below.heap_alloc w _ k hk
  refine ⟨h.fr.trans (G := []) ⟨rfl, rfl, rfl, by simp, fun k hk' _ => hk k hk'⟩ (fun _ h => (nomatch h)), ?_, ?_, ?_, ?_⟩
  · intro A hA
    rcases List.mem_cons.1 hA with rfl | hA
    · exact heap_alloc_new w _
    · exact Asn.loc (fun b hb => hk b (h.lt b (mem_foots hA hb))) (h.hold A hA)
  · intro b hb
    simp only [foots_cons, Asn.foot, List.cons_append, List.nil_append, List.mem_cons] at hb
    rcases hb with rfl | hb
    · simp
    · have := h.lt b hb; simp; omega
  · intro b hb
    simp only [foots_cons, Asn.foot, List.cons_append, List.nil_append, List.mem_cons] at hb
    rcases hb with rfl | hb
    · exact .inr h.fr.size
    · exact h.mine b hb
  · simp only [foots_cons, Asn.foot, List.cons_append, List.nil_append, List.nodup_cons]
    exact ⟨fun hb => by have := h.lt _ hb; omega, h.nodup⟩
theorem Mem.drew (h : Mem w0 F w L) : Mem w0 F w.drew L := ⟨⟨h.fr.os, h.fr.tape, h.fr.output, h.fr.size, h.fr.block⟩, fun A hA => Asn.loc (w := w) (fun _ _ => rfl) (h.hold A hA), h.lt, h.mine, h.nodup⟩
theorem Mem.drewN (h : Mem w0 F w L) {n : Nat} : Mem w0 F (w.drewN n) L := ⟨⟨h.fr.os, h.fr.tape, h.fr.output, h.fr.size, h.fr.block⟩, fun A hA => Asn.loc (w := w) (fun _ _ => rfl) (h.hold A hA), h.lt, h.mine, h.nodup⟩
/-- what a callee without parts of its own leaves -/
theorem Mem.after (h : Mem w0 F w L) (hb : Below w.heap.size w w') : Mem w0 F w' L :=
  ⟨h.fr.trans (G := []) (Fr.of_below hb) (fun _ h => (nomatch h)), fun A hA => Asn.loc (fun b hb' => hb.block b (h.lt b (mem_foots hA hb'))) (h.hold A hA),
   fun b hb' => Nat.lt_of_lt_of_le (h.lt b hb') hb.size, h.mine, h.nodup⟩
theorem Mem.ext (h : Mem w0 F w L) {x : Ext} : Mem w0 F (w.ext x) L := h.after below_ext
/-- any new object -/
theorem Mem.alloc_ (h : Mem w0 F w L) (o : Obj) : Mem w0 F (w.alloc o) L := h.after ((Below.refl _ _).alloc (Nat.le_refl _) _)
/-- one part is written: its block alone changes -/
theorem Mem.write {A A' : Asn} (h : Mem w0 F w (A :: L)) (hb : Fr A.foot w w') (hs : w'.heap.size = w.heap.size) (hA : A'.holds w') (hf : A'.foot = A.foot) : Mem w0 F w' (A' :: L) := by
  have hn := h.nodup
  simp only [foots_cons] at hn
  refine ⟨h.fr.trans hb (fun b hb' => h.mine b (by simp [hb'])), ?_, ?_, ?_, ?_⟩
  · intro B hB
    rcases List.mem_cons.1 hB with rfl | hB
    · exact hA
    · refine Asn.loc (fun b hb' => hb.block b (h.lt b (by simp [mem_foots hB hb'])) (fun hc => ?_)) (h.hold B (by simp [hB]))
      exact (List.nodup_append.1 hn).2.2 b hc b (mem_foots hB hb') rfl
  · intro b hb'
    rw [hs]
    exact h.lt b (by simpa [hf] using hb')
  · intro b hb'
    exact h.mine b (by simpa [hf] using hb')
  · simpa [hf] using hn
theorem Mem.perm {L' : List Asn} (h : Mem w0 F w L) (hp : L.Perm L') : Mem w0 F w L' := by
  have hf : (foots L).Perm (foots L') := hp.flatMap_right _
  exact ⟨h.fr, fun A hA => h.hold A (hp.mem_iff.2 hA), fun b hb => h.lt b (hf.mem_iff.2 hb), fun b hb => h.mine b (hf.mem_iff.2 hb), (hf.nodup_iff).1 h.nodup⟩
theorem Mem.sub {L' : List Asn} (h : Mem w0 F w L) (hp : L'.Sublist L) : Mem w0 F w L' := by
  have hf : (foots L').Sublist (foots L) := by
    clear h
    induction hp with
    | slnil => exact List.Sublist.refl _
    | cons a _ ih => exact ih.trans (List.sublist_append_right _ _)
    | cons_cons a _ ih => exact (List.Sublist.refl _).append ih
  exact ⟨h.fr, fun A hA => h.hold A (hp.subset hA), fun b hb => h.lt b (hf.subset hb), fun b hb => h.mine b (hf.subset hb), h.nodup.sublist hf⟩

/-! ### parts by a mask -/
def sel : List Bool → List Asn → List Asn
  | true :: bs, a :: l => a :: sel bs l
  | false :: bs, _ :: l => sel bs l
  | _, _ => []
def rst : List Bool → List Asn → List Asn
  | true :: bs, _ :: l => rst bs l
  | false :: bs, a :: l => a :: rst bs l
  | _, l => l
theorem sel_rst : ∀ (bs : List Bool) (L : List Asn), L.Perm (sel bs L ++ rst bs L)
  | [], L => by simp [sel, rst]
  | b :: bs, [] => by cases b <;> simp [sel, rst]
  | true :: bs, a :: l => by simpa [sel, rst] using sel_rst bs l
  | false :: bs, a :: l => by
    simp only [sel, rst]
    exact ((sel_rst bs l).cons a).trans List.perm_middle.symm
theorem sel_sub : ∀ (bs : List Bool) (L : List Asn), (sel bs L).Sublist L
  | [], L => by simp [sel]
  | b :: bs, [] => by cases b <;> simp [sel]
  | true :: bs, a :: l => by simpa [sel] using sel_sub bs l
  | false :: bs, a :: l => by simp only [sel]; exact (sel_sub bs l).cons _
theorem Mem.sel (h : Mem w0 F w L) (bs : List Bool) : Mem w0 F w (sel bs L) := h.sub (sel_sub bs L)
theorem Mem.to {L' : List Asn} (bs : List Bool) (h : Mem w0 F w L) (e : Tk.sel bs L = L') : Mem w0 F w L' := e ▸ h.sel bs
/-- the parts of the mask come to the front -/
theorem Mem.front (h : Mem w0 F w L) (bs : List Bool) : Mem w0 F w (Tk.sel bs L ++ rst bs L) := h.perm (sel_rst bs L)
/-- what a callee is handed -/
def Pre (w : World) (L : List Asn) : Prop := Mem w (foots L) w L
theorem Mem.pre (h : Mem w0 F w L) (bs : List Bool) : Pre w (Tk.sel bs L) := by
  have := h.sel bs
  exact ⟨Fr.refl, this.hold, this.lt, fun b hb => .inl hb, this.nodup⟩
/-- what was handed, while nothing of it is written -/
theorem Pre.view (h : Pre w L) (f : Fr [] w w') : Pre w' L :=
  ⟨Fr.refl, fun A hA => Asn.loc (fun b hb => f.block b (h.lt b (mem_foots hA hb)) (by simp)) (h.hold A hA), fun b hb => Nat.lt_of_lt_of_le (h.lt b hb) f.size, fun b hb => .inl hb, h.nodup⟩
theorem Mem.fr0 {L : List Asn} (h : Mem w [] w' L) : Mem w [] w' [] := h.sub (List.nil_sublist _)
/-- what a callee leaves -/
theorem Mem.call {L1 : List Asn} (h : Mem w0 F w L) (bs : List Bool) (hc : Mem w (foots (Tk.sel bs L)) w' L1) : Mem w0 F w' (L1 ++ rst bs L) := by
  have h2 := h.front bs
  have hlt := h2.lt
  have hmine := h2.mine
  have hnd := h2.nodup
  rw [foots_append] at hlt hmine hnd
  have hd := (List.nodup_append.1 hnd).2.2
  refine ⟨h.fr.trans hc.fr (fun b hb => hmine b (List.mem_append.2 (.inl hb))), ?_, ?_, ?_, ?_⟩
  · intro A hA
    rcases List.mem_append.1 hA with hA | hA
    · exact hc.hold A hA
    · exact Asn.loc (fun b hb => hc.fr.block b (hlt b (List.mem_append.2 (.inr (mem_foots hA hb)))) (fun hx => hd b hx b (mem_foots hA hb) rfl)) (h2.hold A (List.mem_append.2 (.inr hA)))
  · intro b hb
    rw [foots_append] at hb
    rcases List.mem_append.1 hb with hb | hb
    · exact hc.lt b hb
    · exact Nat.lt_of_lt_of_le (hlt b (List.mem_append.2 (.inr hb))) hc.fr.size
  · intro b hb
    rw [foots_append] at hb
    rcases List.mem_append.1 hb with hb | hb
    · rcases hc.mine b hb with hb | hb
      · exact hmine b (List.mem_append.2 (.inl hb))
      · exact .inr (Nat.le_trans h.fr.size hb)
    · exact hmine b (List.mem_append.2 (.inr hb))
  · rw [foots_append, List.nodup_append]
    refine ⟨hc.nodup, (List.nodup_append.1 hnd).2.1, fun a ha b hb e => ?_⟩
    subst e
    rcases hc.mine a ha with h1 | h1
    · exact hd a h1 a hb rfl
    · have := hlt a (List.mem_append.2 (.inr hb)); omega

/-! ### stores into a part that is a row of cells -/
theorem Mem.set_at {b j : Nat} {cs : List Value} {t : TypeId} {v : Value} (L1 : List Asn) (h : Mem w0 F w (L1 ++ .pt b cs t :: L)) : Mem w0 F (w.setCell ⟨b, j, none⟩ v) (L1 ++ .pt b (cs.set j v) t :: L) := by
  have h1 : Mem w0 F w (.pt b cs t :: (L1 ++ L)) := h.perm List.perm_middle
  refine (Mem.write (w' := w.setCell ⟨b, j, none⟩ v) (A' := .pt b (cs.set j v) t) h1 ⟨rfl, rfl, rfl, by simp [World.setCell], fun k _ hk => Below.heap_setCell w ⟨b, j, none⟩ v k (by simp only [Asn.foot, List.mem_singleton] at hk; exact hk)⟩ (by simp [World.setCell]) ?_ rfl).perm List.perm_middle.symm
  have hb := h1.hold (.pt b cs t) (by simp)
  simp only [Asn.holds] at hb ⊢
  simp only [World.setCell, Array.getElem?_modify, if_true, hb, Option.map_some]
  simp

/-- what a callee leaves takes the place of what it was handed -/
def put : List Bool → List Asn → List Asn → List Asn
  | true :: bs, x :: xs, _ :: l => x :: put bs xs l
  | true :: bs, [], _ :: l => put bs [] l
  | false :: bs, xs, a :: l => a :: put bs xs l
  | _, xs, l => xs ++ l
theorem put_perm : ∀ (bs : List Bool) (xs L : List Asn), (xs ++ rst bs L).Perm (put bs xs L)
  | [], xs, L => by simp [put, rst]
  | b :: bs, xs, [] => by cases b <;> cases xs <;> simp [put, rst]
  | true :: bs, x :: xs, _ :: l => by simpa [put, rst] using put_perm bs xs l
  | true :: bs, [], _ :: l => by simpa [put, rst] using put_perm bs [] l
  | false :: bs, xs, a :: l => by
    simp only [put, rst]
    exact List.perm_middle.trans ((put_perm bs xs l).cons a)
theorem Mem.callp {L1 : List Asn} (h : Mem w0 F w L) (bs : List Bool) (hc : Mem w (foots (Tk.sel bs L)) w' L1) : Mem w0 F w' (put bs L1 L) := (h.call bs hc).perm (put_perm bs L1 L)
/-- one part comes to the front, and goes back -/
theorem Mem.front1 {x : Asn} (h : Mem w0 F w L) (bs : List Bool) (e : Tk.sel bs L = [x]) : Mem w0 F w (x :: rst bs L) := by
  have := h.front bs
  rw [e] at this
  exact this
theorem Mem.unfront {x : Asn} {bs : List Bool} (h : Mem w0 F w (x :: rst bs L)) : Mem w0 F w (put bs [x] L) := h.perm (put_perm bs [x] L)
def ptb : List Asn → List Nat
  | [] => []
  | .pt b _ _ :: l => b :: ptb l
  | .mk _ _ _ :: l => ptb l
def upd : List Asn → Nat → Nat → Value → List Asn
  | [], _, _, _ => []
  | .pt b cs t :: l, b', j, v => if b = b' then .pt b (cs.set j v) t :: l else .pt b cs t :: upd l b' j v
  | .mk f p q :: l, b', j, v => .mk f p q :: upd l b' j v
theorem ptb_upd : ∀ {L : List Asn} {b j : Nat} {v : Value}, ptb (upd L b j v) = ptb L
  | [], _, _, _ => rfl
  | .pt b' cs t :: l, b, j, v => by
    by_cases e : b' = b
    · simp [upd, e, ptb]
    · simp only [upd, e, if_false, ptb, ptb_upd (L := l)]
  | .mk f p q :: l, b, j, v => by simp only [upd, ptb, ptb_upd (L := l)]
theorem upd_split {b j : Nat} {v : Value} : ∀ {L : List Asn}, b ∈ ptb L → ∃ L1 L2 cs t, L = L1 ++ .pt b cs t :: L2 ∧ upd L b j v = L1 ++ .pt b (cs.set j v) t :: L2
  | [], h => by simp [ptb] at h
  | .pt b' cs t :: l, h => by
    by_cases e : b' = b
    · subst e
      exact ⟨[], l, cs, t, rfl, by simp [upd]⟩
    · simp only [ptb, List.mem_cons] at h
      obtain ⟨L1, L2, cs', t', e1, e2⟩ := upd_split (L := l) (b := b) (j := j) (v := v) (h.resolve_left (fun x => e x.symm))
      exact ⟨.pt b' cs t :: L1, L2, cs', t', by rw [e1]; rfl, by simp only [upd, e, if_false, e2]; rfl⟩
  | .mk f p q :: l, h => by
    obtain ⟨L1, L2, cs', t', e1, e2⟩ := upd_split (L := l) (b := b) (j := j) (v := v) (by simpa [ptb] using h)
    exact ⟨.mk f p q :: L1, L2, cs', t', by rw [e1]; rfl, by simp only [upd, e2]; rfl⟩
theorem Mem.setCell {b j : Nat} {v : Value} (h : Mem w0 F w L) (hb : b ∈ ptb L) : Mem w0 F (w.setCell ⟨b, j, none⟩ v) (upd L b j v) := by
  obtain ⟨L1, L2, cs, t, rfl, e⟩ := upd_split (j := j) (v := v) hb
  rw [e]
  exact h.set_at L1

/-! ### facts for the walk -/
def cellsP (w : World) (b : Nat) : List Value → Nat → Prop
  | [], _ => True
  | v :: vs, i => w.cell? ⟨b, i, none⟩ = some v ∧ cellsP w b vs (i + 1)
def roomP (b s : Nat) : Prop := b < s ∧ (∀ n, b < s + n) ∧ (∀ n m, b < s + n + m) ∧ (∀ n m k, b < s + n + m + k) ∧ (∀ n m k l, b < s + n + m + k + l) ∧ (∀ n m k l i, b < s + n + m + k + l + i)
theorem roomP_of {b s : Nat} (h : b < s) : roomP b s := ⟨h, fun _ => by omega, fun _ _ => by omega, fun _ _ _ => by omega, fun _ _ _ _ => by omega, fun _ _ _ _ _ => by omega⟩
def factsP (w : World) : List Asn → Prop
  | [] => True
  | .pt b cs _ :: l => (roomP b w.heap.size ∧ (∀ j, w.frozen? ⟨b, j, none⟩ = false) ∧ cellsP w b cs 0) ∧ factsP w l
  | .mk _ _ _ :: l => factsP w l
theorem cellsP_of {b : Nat} {cs0 : List Value} {t : TypeId} (h : w.heap[b]? = some (.cells cs0.toArray t (0, 0))) : ∀ (cs : List Value) (i : Nat), (∀ j, cs[j]? = cs0[i + j]?) → cellsP w b cs i
  | [], _, _ => trivial
  | v :: vs, i, he => by
    refine ⟨?_, cellsP_of h vs (i + 1) (fun j => ?_)⟩
    · rw [cell_of_heap h]
      simpa using (he 0).symm
    · have := he (j + 1)
      simp only [List.getElem?_cons_succ] at this
      rw [this]
      congr 1
      omega
theorem facts_of : ∀ (L : List Asn), (∀ A ∈ L, A.holds w) → (∀ b ∈ foots L, b < w.heap.size) → factsP w L
  | [], _, _ => trivial
  | .pt b cs t :: l, h, hl => ⟨⟨roomP_of (hl b (by simp [Asn.foot])), fun j => frozen_of_heap (h _ (List.mem_cons_self ..)), cellsP_of (h _ (List.mem_cons_self ..)) cs 0 (by simp)⟩, facts_of l (fun A hA => h A (List.mem_cons_of_mem _ hA)) (fun b hb => hl b (by simp [hb]))⟩
  | .mk f p q :: l, h, hl => facts_of l (fun A hA => h A (List.mem_cons_of_mem _ hA)) (fun b hb => hl b (by simp [hb]))
theorem ptb_sub : ∀ L : List Asn, (ptb L).Sublist (foots L)
  | [] => List.Sublist.refl _
  | .pt b _ _ :: l => (ptb_sub l).cons_cons b
  | .mk f _ _ :: l => (ptb_sub l).trans (List.sublist_append_right f _)
theorem Mem.facts (h : Mem w0 F w L) : factsP w L ∧ (ptb L).Nodup := ⟨facts_of L h.hold h.lt, h.nodup.sublist (ptb_sub L)⟩
theorem foot_pt {b : Nat} {cs : List Value} {t : TypeId} : (Asn.pt b cs t).foot = [b] := rfl

/-! ### the world gets a name -/
theorem Mem.atCall {P : Program} {f : FuncId} {args : Array Value} {R : Ending → World → Prop} {E : World} (h : Mem w0 F E L) (k : ∀ w, Mem w0 F w L → Calls P f args w R) : Calls P f args E R := k E h
theorem Mem.atCode {P : Program} {c : Code} {Q : Exit → Act → World → Prop} {a : Act} {E : World} (h : Mem w0 F E L) (k : ∀ w, Mem w0 F w L → c.wp P Q a w) : c.wp P Q a E := k E h
theorem Mem.atList {P : Program} {ops : Array Oper} {l : List Oper} {Q : Exit → Act → World → Prop} {a : Act} {E : World} (h : Mem w0 F E L) (k : ∀ w, Mem w0 F w L → wpList P ops Q l a w) : wpList P ops Q l a E := k E h
/-- a region that draws: reads, then the last operation -/
theorem region_last_mem {P : Program} {id : Nat} {Q : Exit → Act → World → Prop} {a : Act} {l : List Oper} (hm : P.follows .mixedOrders = true) (hB : Region.lexTailB .any l.toArray (l.length - 1) = true) (O : Mem w0 F w L)
    (h : ∀ w, Mem w0 F w L → wpStill P l.toArray w (fun a' => wpList P l.toArray Q (l.drop (l.length - 1)) a' w) (l.take (l.length - 1)) a) : (Code.region id l.toArray true).wp P Q a w :=
  wp_region_still_tail _ hm hB (h w.drew O.drew)
theorem region_tail_mem {P : Program} {id : Nat} {Q : Exit → Act → World → Prop} {a : Act} {l : List Oper} (n : Nat) (hm : P.follows .mixedOrders = true) (hB : Region.lexTailB .any l.toArray n = true) (O : Mem w0 F w L)
    (h : ∀ w, Mem w0 F w L → wpStill P l.toArray w (fun a' => wpList P l.toArray Q (l.drop n) a' w) (l.take n) a) : (Code.region id l.toArray true).wp P Q a w :=
  wp_region_still_tail n hm hB (h w.drew O.drew)
/-- a region that draws: reads, and callees that only make memory -/
theorem region_quiet_mem {P : Program} {id : Nat} {Q : Exit → Act → World → Prop} {a : Act} {l : List Oper} (hm : P.follows .mixedOrders = true) (hB : Region.lexB .any l.toArray = true) (O : Mem w0 F w L)
    (h : ∀ w, Mem w0 F w L → wpQuiet P l.toArray (fun w' => ∃ x, w' = w.ext x) (fun a' => ∀ w', (∃ x, w' = w.ext x) → Q .normal a' w') l a) : (Code.region id l.toArray true).wp P Q a w :=
  wp_region_ext hm hB (h w O)
theorem Mem.qext (h : Mem w0 F w L) (e : ∃ x, w' = w.ext x) : Mem w0 F w' L := by
  obtain ⟨x, rfl⟩ := e
  exact h.ext
/-- a region that draws, its loads taken first: they read the parts of the mask -/
theorem region_held_mem {P : Program} {id : Nat} {Q : Exit → Act → World → Prop} {a : Act} {ops : Array Oper} (bs : List Bool) (hm : P.follows .mixedOrders = true) (O : Mem w0 F w L)
    (h : ∀ w, Mem w0 F w L → wpAnyH P .any ops Q (fun W => Mem w0 F W (Tk.sel bs L)) ops.size (Array.replicate ops.size false) a w) : (Code.region id ops true).wp P Q a w :=
  wp_region_held hm (h w.drew O.drew)
theorem takeH {P : Program} {md : Region.Mode} {S : World → Prop} {Q : Exit → Act → World → Prop} {l : List Oper} {i : Nat} {oi : Oper} {v : Value} {fuel : Nat} {listed : Array Bool} {a : Act} {w : World} (hi : l[i]? = some oi)
    (hs : Region.noSelect l.toArray = true) (hf : Region.free md l.toArray listed i = true) (hr : (Region.ready md l.toArray listed).contains i = true)
    (hQ : ∀ c a w, Q (.panic c) (a.put oi.dst v) w → Q (.panic c) a w) (hw : Region.wanted oi (yielded l.toArray a.tmps) = true) (hy : ∀ w, S w → (execOp a.eval oi).run P w = .ok (.value v) w) (hS : S w)
    (h : wpAnyH P md l.toArray Q S fuel (listed.setIfInBounds i true) (a.put oi.dst v) w) : wpAnyH P md l.toArray Q S (fuel + 1) listed a w :=
  wpAnyH_take (by simpa using hi) hs hf hr hQ (.inl ⟨hw, hy⟩) hS h
theorem consH {P : Program} {md : Region.Mode} {S : World → Prop} {Q : Exit → Act → World → Prop} {l : List Oper} {fuel : Nat} {listed : Array Bool} {a : Act} {w : World} {i : Nat} {o : Oper} {rs : List Nat} (ho : l[i]? = some o)
    (h : ∀ K' : Act → World → Prop, Shut (∀ a w, S w → (S w → wpAnyH P md l.toArray Q S fuel (listed.setIfInBounds i true) a w) → K' a w) → if Region.wanted o (yielded l.toArray a.tmps) = true then Oper.wp P o a w K' Q else K' (a.put o.dst undef) w)
    (hs : AllReadyH P md l.toArray Q S fuel listed a w rs) : AllReadyH P md l.toArray Q S fuel listed a w (i :: rs) := AllReadyH.cons (by simpa using ho) h hs
theorem Mem.atK {K : Act → World → Prop} {a : Act} {E : World} (h : Mem w0 F E L) (k : ∀ w, Mem w0 F w L → K a w) : K a E := k E h
theorem Mem.swap {A B : Asn} (h : Mem w0 F w (A :: B :: L)) : Mem w0 F w (B :: A :: L) := h.perm (List.Perm.swap _ _ _)
theorem Mem.swap1 {A B C : Asn} (h : Mem w0 F w (A :: B :: C :: L)) : Mem w0 F w (A :: C :: B :: L) := h.perm ((List.Perm.swap _ _ _).cons _)
theorem Mem.swap2 {A B C D : Asn} (h : Mem w0 F w (A :: B :: C :: D :: L)) : Mem w0 F w (A :: B :: D :: C :: L) := h.perm (((List.Perm.swap _ _ _).cons _).cons _)
/-! ### one statement for all ways that meet: it is told by the first way -/
theorem cutP {G : Prop} (T : Prop) (main : Hid T → G) (tail : T) : G := main (Lib.hid tail)
theorem cutT0 {G : Prop} (T : World → Prop) (main : Hid (∀ w, T w) → G) (tail : ∀ w, T w) : G := main (Lib.hid tail)
theorem cutT1 {G : Prop} (T : Nat → World → Prop) (main : Hid (∀ p w, T p w) → G) (tail : ∀ p w, T p w) : G := main (Lib.hid tail)
theorem cutT2 {G : Prop} (T : Nat → Nat → World → Prop) (main : Hid (∀ p q w, T p q w) → G) (tail : ∀ p q w, T p q w) : G := main (Lib.hid tail)
theorem cutT3 {G : Prop} (T : Nat → Nat → Nat → World → Prop) (main : Hid (∀ p q r w, T p q r w) → G) (tail : ∀ p q r w, T p q r w) : G := main (Lib.hid tail)
theorem cutT4 {G : Prop} (T : Nat → Nat → Nat → Nat → World → Prop) (main : Hid (∀ p q r s w, T p q r s w) → G) (tail : ∀ p q r s w, T p q r s w) : G := main (Lib.hid tail)
theorem cutT5 {G : Prop} (T : Nat → Nat → Nat → Nat → Nat → World → Prop) (main : Hid (∀ p q r s u w, T p q r s u w) → G) (tail : ∀ p q r s u w, T p q r s u w) : G := main (Lib.hid tail)
/-! ### a bundle of parts -/
def bun (l : List Asn) : Asn := .mk (foots l) (fun w => ∀ A ∈ l, A.holds w) (fun w w' h hl A hA => Asn.loc (fun b hb => h b (mem_foots hA hb)) (hl A hA))
theorem foot_bun (l : List Asn) : (bun l).foot = foots l := rfl
theorem Mem.open_ {l : List Asn} (h : Mem w0 F w (bun l :: L)) : Mem w0 F w (l ++ L) := by
  refine ⟨h.fr, fun A hA => ?_, ?_, ?_, ?_⟩
  · rcases List.mem_append.1 hA with hA | hA
    · exact h.hold (bun l) (by simp) A hA
    · exact h.hold A (by simp [hA])
  · rw [foots_append]; exact h.lt
  · rw [foots_append]; exact h.mine
  · rw [foots_append]; exact h.nodup
theorem Mem.shut {l : List Asn} (h : Mem w0 F w (l ++ L)) : Mem w0 F w (bun l :: L) := by
  refine ⟨h.fr, fun A hA => ?_, ?_, ?_, ?_⟩
  · rcases List.mem_cons.1 hA with rfl | hA
    · exact fun B hB => h.hold B (List.mem_append.2 (.inl hB))
    · exact h.hold A (List.mem_append.2 (.inr hA))
  · have := h.lt; rw [foots_append] at this; exact this
  · have := h.mine; rw [foots_append] at this; exact this
  · have := h.nodup; rw [foots_append] at this; exact this
end

/-! ### maps -/
section
variable {P : Program} {kt : TypeId} {K V : Type} [DecidableEq K]
def mapA (κ : KeyTy P kt K) (vv : V → Value) (b : Nat) (m : List (K × V)) : Asn :=
  .mk [b] (fun w => MapAt κ vv w b m) (fun w w' h hm => hm.of_heap (h b (by simp)))
variable {κ : KeyTy P kt K} {vv : V → Value} {w0 w w' : World} {F : List Nat} {L : List Asn} {b : Nat} {m m' : List (K × V)}
theorem foot_mapA : (mapA κ vv b m).foot = [b] := rfl
theorem factsP_mapA : factsP w (mapA κ vv b m :: L) = factsP w L := rfl
theorem ptb_mapA : ptb (mapA κ vv b m :: L) = ptb L := rfl
theorem Mem.map (h : Mem w0 F w L) (hA : mapA κ vv b m ∈ L) : MapAt κ vv w b m := h.hold _ hA
theorem Mem.newMap (h : Mem w0 F w L) : Mem w0 F (w.alloc (.map #[] 0)) (mapA κ vv w.heap.size [] :: L) := by
  have h2 := h.alloc_ (.map #[] 0)
  refine ⟨h2.fr, ?_, ?_, ?_, ?_⟩
  · intro A hA
    rcases List.mem_cons.1 hA with rfl | hA
    · exact MapAt.made
    · exact h2.hold A hA
  · intro b hb
    simp only [foots_cons, mapA, Asn.foot, List.cons_append, List.nil_append, List.mem_cons] at hb
    rcases hb with rfl | hb
    · simp
    · exact h2.lt b hb
  · intro b hb
    simp only [foots_cons, mapA, Asn.foot, List.cons_append, List.nil_append, List.mem_cons] at hb
    rcases hb with rfl | hb
    · exact .inr h.fr.size
    · exact h.mine b hb
  · simp only [foots_cons, mapA, Asn.foot, List.cons_append, List.nil_append, List.nodup_cons]
    exact ⟨fun hb => by have := h.lt _ hb; omega, h.nodup⟩
/-- 'm[k] = v' at an operation: the map is the first part -/
theorem wpList_mapUpdate_mem {ops : Array Oper} {rest : List Oper} {o : Oper} {a : Act} {Q : Exit → Act → World → Prop} (h : Mem w0 F w (mapA κ vv b m :: L)) (hg : o.guard = none) (mo x v : Operand) (t : TypeId) (hop : o.op = Op.mapUpdate t mo x v) {e : TypeId} (ht : P.underlying t = some (.map kt e))
    (hm : a.eval mo = .map (some b)) (k : K) (hk : κ.ok k) (u : V) (hx : a.eval x = κ.kv k) (hv : a.eval v = vv u)
    (hK : ∀ w', Mem w0 F w' (mapA κ vv b (mset m k u) :: L) → wpList P ops Q rest (a.put o.dst undef) w') : wpList P ops Q (o :: rest) a w :=
  wpList_mapUpdate_at hg mo x v t hop ht hm (h.map (by simp)) k hk u hx hv (fun es c hm' =>
    hK _ (Mem.write (A' := mapA κ vv b (mset m k u)) h ⟨setMap_os.1, setMap_os.2.1, setMap_os.2.2, by rw [size_setMap]; omega, fun k _ hk => heap_setMap_other (by simpa [Asn.foot, mapA] using hk)⟩ size_setMap hm' rfl))
/-- 'delete(m, k)' at an operation: the map is the first part -/
theorem wpList_delete_mem {ops : Array Oper} {rest : List Oper} {o : Oper} {a : Act} {Q : Exit → Act → World → Prop} (h : Mem w0 F w (mapA κ vv b m :: L)) (hg : o.guard = none) (mo x : Operand) (t kt' : TypeId) (hop : o.op = Op.call { callee := Callee.builtin Builtin.delete, args := #[mo, x], argTypes := #[t, kt'] }) {e : TypeId} (ht : P.underlying t = some (.map kt e))
    (hm : a.eval mo = .map (some b)) (k : K) (hk : κ.ok k) (hx : a.eval x = κ.kv k)
    (hK : ∀ w', Mem w0 F w' (mapA κ vv b (mdel m k) :: L) → wpList P ops Q rest (a.put o.dst (.tuple #[])) w') : wpList P ops Q (o :: rest) a w :=
  wpList_delete_at hg mo x t kt' hop ht hm (h.map (by simp)) k hk hx (fun es c hm' =>
    hK _ (Mem.write (A' := mapA κ vv b (mdel m k)) h ⟨setMap_os.1, setMap_os.2.1, setMap_os.2.2, by rw [size_setMap]; omega, fun k _ hk => heap_setMap_other (by simpa [Asn.foot, mapA] using hk)⟩ size_setMap hm' rfl))
theorem Mem.setMap_at {es : Array MapEntry} {c : Nat} (L1 : List Asn) (h : Mem w0 F w (L1 ++ mapA κ vv b m :: L)) (hm : MapAt κ vv (w.setMap b es c) b m') : Mem w0 F (w.setMap b es c) (L1 ++ mapA κ vv b m' :: L) := by
  have h1 : Mem w0 F w (mapA κ vv b m :: (L1 ++ L)) := h.perm List.perm_middle
  exact (Mem.write (A' := mapA κ vv b m') h1 ⟨setMap_os.1, setMap_os.2.1, setMap_os.2.2, by rw [size_setMap]; omega, fun k _ hk => heap_setMap_other (by simpa [Asn.foot, mapA] using hk)⟩ size_setMap hm rfl).perm List.perm_middle.symm
end
end Go.Tk
