/- GENERAL WORDS, over any program: 'm[k] = v' in a region that draws; families of parts; some parts told otherwise. -/
import Derived.Test.YtomcekjhehceoaaElt
import Derived.Test.YtomcekjhehceoaaArgs
set_option linter.unusedVariables false
set_option linter.unusedSimpArgs false
namespace Go.Tk
open Go.RowKit
section
variable {P : Program} {kt : TypeId} {K V : Type} [DecidableEq K] {κ : KeyTy P kt K} {vv : V → Value} {w0 w w' : World} {F : List Nat} {L : List Asn} {b : Nat} {m m' : List (K × V)}
/-- 'm[k] = v' at an operation of a region that draws -/
theorem if_mapUpdate_mem {ops : Array Oper} {o : Oper} {a : Act} {K' : Act → World → Prop} {Q : Exit → Act → World → Prop} (h : Mem w0 F w (mapA κ vv b m :: L)) (hg : o.guard = none) (mo x v : Operand) (t : TypeId) (hop : o.op = Op.mapUpdate t mo x v) {e : TypeId} (ht : P.underlying t = some (.map kt e))
    (hm : a.eval mo = .map (some b)) (k : K) (hk : κ.ok k) (u : V) (hx : a.eval x = κ.kv k) (hv : a.eval v = vv u)
    (hK : ∀ w', Mem w0 F w' (mapA κ vv b (mset m k u) :: L) → K' (a.put o.dst undef) w') : if Region.wanted o (yielded ops a.tmps) = true then o.wp P a w K' Q else K' (a.put o.dst undef) w := by
  rw [if_pos (by simp [Region.wanted, hg])]
  have hat : MapAt κ vv w b m := h.map (by simp)
  obtain ⟨es, c, hrun, r1⟩ := hat.update ht hk u
  unfold Oper.wp
  simp [execOp, hop, hm, hx, hv, hrun, Result.andThen]
  exact hK _ (Mem.write (A' := mapA κ vv b (mset m k u)) h ⟨setMap_os.1, setMap_os.2.1, setMap_os.2.2, by rw [size_setMap]; omega, fun k _ hk => heap_setMap_other (by simpa [Asn.foot, mapA] using hk)⟩ size_setMap r1 rfl)
variable {α : Type} {f : α → Asn} {l : List α} {k : Nat} {a a' : α}
/-- a family of parts: one for each thing of a list -/
def fam (f : α → Asn) (l : List α) : Asn := bun (l.map f)
theorem factsP_fam : factsP w (fam f l :: L) = factsP w L := rfl
theorem ptb_fam : ptb (fam f l :: L) = ptb L := rfl
theorem upd_fam {b j : Nat} {v : Value} : upd (fam f l :: L) b j v = fam f l :: upd L b j v := rfl
theorem perm_erase : ∀ {l : List α} {k : Nat}, l[k]? = some a → l.Perm (a :: l.eraseIdx k)
  | [], _, h => by simp at h
  | x :: l, 0, h => by
    simp only [List.getElem?_cons_zero, Option.some.injEq] at h
    subst h
    exact List.Perm.refl _
  | x :: l, k + 1, h => by
    simp only [List.getElem?_cons_succ] at h
    exact ((perm_erase h).cons x).trans (List.Perm.swap _ _ _)
theorem Mem.famTake (h : Mem w0 F w (fam f l :: L)) (hk : l[k]? = some a) : Mem w0 F w (f a :: fam f (l.eraseIdx k) :: L) := by
  have h1 := Mem.open_ h
  have h2 : Mem w0 F w ((l.eraseIdx k).map f ++ (f a :: L)) := h1.perm (by
    refine (((perm_erase hk).map f).append_right L).trans ?_
    rw [List.map_cons, List.cons_append]
    exact List.perm_middle.symm)
  exact (Mem.shut h2).perm (List.Perm.swap _ _ _)
theorem eraseIdx_set (l : List α) (k : Nat) (a' : α) : (l.set k a').eraseIdx k = l.eraseIdx k := by
  induction l generalizing k with
  | nil => rfl
  | cons x l ih => cases k with
    | zero => rfl
    | succ k => simp [ih]
theorem Mem.famPut (h : Mem w0 F w (f a' :: fam f (l.eraseIdx k) :: L)) (hk : k < l.length) : Mem w0 F w (fam f (l.set k a') :: L) := by
  have hk' : (l.set k a')[k]? = some a' := by rw [List.getElem?_set, if_pos rfl, if_pos hk]
  have h1 := Mem.open_ (h.perm (List.Perm.swap _ _ _))
  refine Mem.shut (l := (l.set k a').map f) (h1.perm ?_)
  have h2 := ((perm_erase hk').map f).append_right L
  rw [eraseIdx_set, List.map_cons, List.cons_append] at h2
  exact List.perm_middle.trans h2.symm
theorem Mem.famNil (h : Mem w0 F w L) : Mem w0 F w (fam f [] :: L) := Mem.shut (l := []) h
theorem Mem.famSnoc (h : Mem w0 F w (f a :: fam f l :: L)) : Mem w0 F w (fam f (l ++ [a]) :: L) := by
  have h1 := Mem.open_ (h.perm (List.Perm.swap _ _ _))
  refine Mem.shut (l := (l ++ [a]).map f) (h1.perm ?_)
  rw [List.map_append, List.append_assoc]
  exact List.Perm.refl _
end
theorem factsP_bun {w : World} {l L : List Asn} : factsP w (bun l :: L) = factsP w L := rfl
theorem ptb_bun {l L : List Asn} : ptb (bun l :: L) = ptb L := rfl
theorem cutX0 {G : Prop} {α : Type} (T : α → World → Prop) (main : Hid (∀ x w, T x w) → G) (tail : ∀ x w, T x w) : G := main (Lib.hid tail)
theorem cutX1 {G : Prop} {α : Type} (T : α → Nat → World → Prop) (main : Hid (∀ x p w, T x p w) → G) (tail : ∀ x p w, T x p w) : G := main (Lib.hid tail)
theorem cutX2 {G : Prop} {α : Type} (T : α → Nat → Nat → World → Prop) (main : Hid (∀ x p q w, T x p q w) → G) (tail : ∀ x p q w, T x p q w) : G := main (Lib.hid tail)
end Go.Tk
namespace Go.Tk
open Go.RowKit
section
variable {w0 w w' : World} {F : List Nat} {L L1 L2 : List Asn}
/-- some parts are told otherwise: in the same blocks -/
theorem Mem.recast (L2 : List Asn) (h : Mem w0 F w (L1 ++ L)) (hh : ∀ A ∈ L2, A.holds w) (hf : ∀ b ∈ foots L2, b ∈ foots L1) (hn : (foots L2).Nodup) : Mem w0 F w (L2 ++ L) := by
  have hnd := h.nodup
  rw [foots_append] at hnd
  obtain ⟨n1, n2, n3⟩ := List.nodup_append.1 hnd
  refine ⟨h.fr, ?_, ?_, ?_, ?_⟩
  · intro A hA
    rcases List.mem_append.1 hA with hA | hA
    · exact hh A hA
    · exact h.hold A (List.mem_append.2 (.inr hA))
  · intro b hb
    rw [foots_append] at hb
    rcases List.mem_append.1 hb with hb | hb
    · exact h.lt b (by rw [foots_append]; exact List.mem_append.2 (.inl (hf b hb)))
    · exact h.lt b (by rw [foots_append]; exact List.mem_append.2 (.inr hb))
  · intro b hb
    rw [foots_append] at hb
    rcases List.mem_append.1 hb with hb | hb
    · exact h.mine b (by rw [foots_append]; exact List.mem_append.2 (.inl (hf b hb)))
    · exact h.mine b (by rw [foots_append]; exact List.mem_append.2 (.inr hb))
  · rw [foots_append, List.nodup_append]
    exact ⟨hn, n2, fun a ha b hb e => n3 a (hf a ha) b hb e⟩
theorem upd_listA {α : Type} {e : TypeId} {size : Nat} {cs : α → List Value} {A : Option Addr} {c : Nat} {l : List α} {L : List Asn} {b j : Nat} {v : Value} : upd (listA e size cs A c l :: L) b j v = listA e size cs A c l :: upd L b j v := rfl
theorem upd_mapA {P : Program} {kt : TypeId} {K V : Type} [DecidableEq K] {κ : KeyTy P kt K} {vv : V → Value} {mb : Nat} {m : List (K × V)} {L : List Asn} {b j : Nat} {v : Value} : upd (mapA κ vv mb m :: L) b j v = mapA κ vv mb m :: upd L b j v := rfl
theorem upd_bun {l L : List Asn} {b j : Nat} {v : Value} : upd (bun l :: L) b j v = bun l :: upd L b j v := rfl
/-- each once -/
def ddup : List Nat → List Nat
  | [] => []
  | a :: l => if a ∈ ddup l then ddup l else a :: ddup l
theorem mem_ddup {a : Nat} : ∀ {l : List Nat}, a ∈ ddup l ↔ a ∈ l
  | [] => by simp [ddup]
  | b :: l => by
    unfold ddup
    split
    · rename_i h
      rw [mem_ddup, List.mem_cons]
      constructor
      · exact .inr
      · rintro (rfl | h')
        · exact mem_ddup.1 h
        · exact h'
    · rw [List.mem_cons, mem_ddup, List.mem_cons]
theorem nodup_ddup : ∀ l : List Nat, (ddup l).Nodup
  | [] => List.nodup_nil
  | b :: l => by
    unfold ddup
    split
    · exact nodup_ddup l
    · rename_i h
      exact List.nodup_cons.2 ⟨h, nodup_ddup l⟩
theorem fr_of_below {w w' : World} (h : Below w.heap.size w w') : Fr [] w w' := Fr.of_below h
end
end Go.Tk
namespace Go.Tk
open Go.RowKit
theorem sel_all : ∀ L : List Asn, Tk.sel (List.replicate L.length true) L = L
  | [] => rfl
  | a :: L => by simp [Tk.sel, List.replicate_succ, sel_all L]
theorem rst_all : ∀ L : List Asn, rst (List.replicate L.length true) L = []
  | [] => rfl
  | a :: L => by simp [rst, List.replicate_succ, rst_all L]
/-- a callee is handed all parts but the first -/
theorem Mem.tail1 {w0 w : World} {F : List Nat} {x : Asn} {L : List Asn} (h : Mem w0 F w (x :: L)) : Pre w L := by
  have := h.pre (false :: List.replicate L.length true)
  rwa [Tk.sel, sel_all] at this
theorem Mem.callTail1 {w0 w w' : World} {F : List Nat} {x : Asn} {L L' : List Asn} (h : Mem w0 F w (x :: L)) (hc : Mem w (foots L) w' L') : Mem w0 F w' (x :: L') := by
  have e : Tk.sel (false :: List.replicate L.length true) (x :: L) = L := by rw [Tk.sel, sel_all]
  have := h.call (false :: List.replicate L.length true) (by rw [e]; exact hc)
  rw [rst, rst_all] at this
  exact this.perm (List.perm_append_comm (l₁ := L') (l₂ := [x]))
theorem Mem.drop1 {w0 w : World} {F : List Nat} {x : Asn} {L : List Asn} (h : Mem w0 F w (x :: L)) : Mem w0 F w L := h.sub (List.sublist_cons_self x L)
theorem Mem.callAll {w0 w w' : World} {F : List Nat} {L L' : List Asn} (h : Mem w0 F w L) (hc : Mem w (foots L) w' L') : Mem w0 F w' L' := by
  have := h.call (List.replicate L.length true) (by rw [sel_all]; exact hc)
  rwa [rst_all, List.append_nil] at this
theorem Mem.preAll {w0 w : World} {F : List Nat} {L : List Asn} (h : Mem w0 F w L) : Pre w L := by
  have := h.pre (List.replicate L.length true)
  rwa [sel_all] at this
end Go.Tk
