/- WALKS: the law's world of Paxos as parts of memory; one member of a family of parts is taken out, and put back. -/
import Derived.Test.YtkhpikjmhamppaaPaxosN11
set_option linter.unusedVariables false
set_option linter.unusedSimpArgs false
namespace Go.Tk
open Go.RowKit
section
variable {α : Type} {f : α → Asn} {l : List α} {w0 w : World} {F : List Nat} {L : List Asn} {k : Nat} {a a' : α}
/-- a family of parts: one for each thing of a list -/
def fam (f : α → Asn) (l : List α) : Asn := bun (l.map f)
theorem factsP_fam : factsP w (fam f l :: L) = factsP w L := rfl
theorem ptb_fam : ptb (fam f l :: L) = ptb L := rfl
theorem perm_erase : ∀ {l : List α} {k : Nat}, l[k]? = some a → l.Perm (a :: l.eraseIdx k)
  | [], _, h => by simp at h
  | x :: l, 0, h => by
    simp only [List.getElem?_cons_zero, Option.some.injEq] at h
    subst h
    exact List.Perm.refl _
  | x :: l, k + 1, h => by
    simp only [List.getElem?_cons_succ] at h
    exact ((perm_erase h).cons x).trans (List.Perm.swap _ _ _)
theorem Mem.famTake (h : Mem w0 F w (fam f l :: L)) (hk : l[k]? = some a) : Mem w0 F w (f a :: fam f (l.eraseIdx k) :: L) := by
  have h1 := Mem.open_ h
  have h2 : Mem w0 F w ((l.eraseIdx k).map f ++ (f a :: L)) := h1.perm (by
    refine (((perm_erase hk).map f).append_right L).trans ?_
    rw [List.map_cons, List.cons_append]
    exact List.perm_middle.symm)
  exact (Mem.shut h2).perm (List.Perm.swap _ _ _)
theorem eraseIdx_set (l : List α) (k : Nat) (a' : α) : (l.set k a').eraseIdx k = l.eraseIdx k := by
  induction l generalizing k with
  | nil => rfl
  | cons x l ih => cases k with
    | zero => rfl
    | succ k => simp [ih]
theorem Mem.famPut (h : Mem w0 F w (f a' :: fam f (l.eraseIdx k) :: L)) (hk : k < l.length) : Mem w0 F w (fam f (l.set k a') :: L) := by
  have hk' : (l.set k a')[k]? = some a' := by rw [List.getElem?_set, if_pos rfl, if_pos hk]
  have h1 := Mem.open_ (h.perm (List.Perm.swap _ _ _))
  refine Mem.shut (l := (l.set k a').map f) (h1.perm ?_)
  have h2 := ((perm_erase hk').map f).append_right L
  rw [eraseIdx_set, List.map_cons, List.cons_append] at h2
  exact List.perm_middle.trans h2.symm
theorem Mem.famNil (h : Mem w0 F w L) : Mem w0 F w (fam f [] :: L) := Mem.shut (l := []) h
theorem Mem.famSnoc (h : Mem w0 F w (f a :: fam f l :: L)) : Mem w0 F w (fam f (l ++ [a]) :: L) := by
  have h1 := Mem.open_ (h.perm (List.Perm.swap _ _ _))
  refine Mem.shut (l := (l ++ [a]).map f) (h1.perm ?_)
  rw [List.map_append, List.append_assoc]
  exact List.Perm.refl _
/-- the first part goes k places on -/
theorem Mem.sink {x : Asn} (k : Nat) (h : Mem w0 F w (x :: L)) : Mem w0 F w (L.take k ++ x :: L.drop k) := h.perm (by
  conv => lhs; rw [← List.take_append_drop k L]
  exact List.perm_middle.symm)
end
/-! one statement for all ways that meet, where a call gave a value besides -/
theorem cutX0 {G : Prop} {α : Type} (T : α → World → Prop) (main : Hid (∀ x w, T x w) → G) (tail : ∀ x w, T x w) : G := main (Lib.hid tail)
theorem cutX1 {G : Prop} {α : Type} (T : α → Nat → World → Prop) (main : Hid (∀ x p w, T x p w) → G) (tail : ∀ x p w, T x p w) : G := main (Lib.hid tail)
theorem cutX2 {G : Prop} {α : Type} (T : α → Nat → Nat → World → Prop) (main : Hid (∀ x p q w, T x p q w) → G) (tail : ∀ x p q w, T x p q w) : G := main (Lib.hid tail)
theorem cutX3 {G : Prop} {α : Type} (T : α → Nat → Nat → Nat → World → Prop) (main : Hid (∀ x p q r w, T x p q r w) → G) (tail : ∀ x p q r w, T x p q r w) : G := main (Lib.hid tail)
end Go.Tk
namespace Go.Proofs.Ytkhpikjmhamppaa
open Go.RowKit Go.Tk
def ptrCells (b : Nat) : List Value := [.pointer (some ⟨b, 0, none⟩)]
def sentCells (m : Sent) : List Value := [.int .i64 m.to_, .int .i64 m.from_, .int .u32 m.b.r, .int .u8 m.b.n, .string m.v, .bool m.a.is, .int .u32 m.a.b.r, .int .u8 m.a.b.n, .string m.a.v]
def noSent : Sent := ⟨0, 0, noB, .empty, noA⟩
theorem sentTy : ElTy Try.prog 71 101 9 sentCells noSent :=
  ⟨Try.underlying71, by kernel_rfl, by kernel_rfl, by omega, fun _ => rfl, fun a u h => by simp [sentCells] at h; rcases h with rfl | rfl | rfl | rfl | rfl | rfl | rfl | rfl | rfl <;> rfl⟩
theorem sentLen (m : Sent) : (sentCells m).length = 9 := rfl
def tabF (t : Nat × Nat × Rows10) : Asn := tabA t.1 t.2.1 1 t.2.2
def propF (t : Nat × Option Nat × Prop11) : Asn := propA t.1 t.2.1 t.2.2
def learnF (t : Nat × Nat × Learn11) : Asn := learnA t.1 t.2.1 t.2.2
structure PxM where
  A1 : Option Addr
  c1 : Nat
  A2 : Option Addr
  c2 : Nat
  A3 : Option Addr
  c3 : Nat
  tabs : List (Nat × Nat × Rows10)
  props : List (Nat × Option Nat × Prop11)
  learns : List (Nat × Nat × Learn11)
  round : Int
  vote : ByteArray
  B2 : Option Addr
  d2 : Nat
  l2 : List Sent
  B3 : Option Addr
  d3 : Nat
  l3 : List Sent
  B4 : Option Addr
  d4 : Nat
  l4 : List Sent
  B5 : Option Addr
  d5 : Nat
  l5 : List Sent
def PxM.st (X : PxM) : Px := ⟨X.tabs.map (·.2.2), X.props.map (·.2.2), X.learns.map (·.2.2), X.round, X.vote, X.l2, X.l3, X.l4, X.l5⟩
def PxM.cells (X : PxM) (n : Nat) : List Value := [.slice X.A1 n X.c1, .slice X.A2 3 X.c2, .slice X.A3 3 X.c3, .int .u32 X.round, .string X.vote, .slice none 0 0, .slice none 0 0, .slice X.B2 X.l2.length X.d2, .slice X.B3 X.l3.length X.d3, .slice X.B4 X.l4.length X.d4, .slice X.B5 X.l5.length X.d5]
abbrev sentA (B : Option Addr) (d : Nat) (l : List Sent) : Asn := listA 101 9 sentCells B d l
def PxM.parts (X : PxM) (n xb : Nat) : List Asn :=
  [.pt xb (X.cells n) 74, listA 75 1 ptrCells X.A1 X.c1 (X.tabs.map (·.1)), listA 24 1 ptrCells X.A2 X.c2 (X.props.map (·.1)), listA 44 1 ptrCells X.A3 X.c3 (X.learns.map (·.1)),
   fam tabF X.tabs, fam propF X.props, fam learnF X.learns, sentA X.B2 X.d2 X.l2, sentA X.B3 X.d3 X.l3, sentA X.B4 X.d4 X.l4, sentA X.B5 X.d5 X.l5]
def PxM.size (X : PxM) : Nat := X.l2.length + X.l3.length + X.l4.length + X.l5.length
structure Ev where
  kind : Int
  a : Int
  b : Int
  v : ByteArray
def Ev.val (e : Ev) : Value := .agg #[.int .i64 e.kind, .int .i64 e.a, .int .i64 e.b, .string e.v]
def Ev.cells (e : Ev) : List Value := [.int .i64 e.kind, .int .i64 e.a, .int .i64 e.b, .string e.v]
def inI64 (c : Int) : Prop := -9223372036854775808 ≤ c ∧ c ≤ 9223372036854775807
def pickN (c : Int) (n : Nat) : Nat := (pick11 c n).toNat
theorem pickN_eq {c : Int} {n : Nat} (h : 1 ≤ n) : pick11 c n = (pickN c n : Int) := by
  have := (pick11_range (c := c) (n := n) (by omega)).1
  unfold pickN
  omega
theorem pickN_lt {c : Int} {n : Nat} (h : 1 ≤ n) : pickN c n < n := by
  have := (pick11_range (c := c) (n := n) (by omega)).2
  have h2 := pickN_eq (c := c) h
  omega
theorem q_pick (c : Int) (n : Nat) (hc : inI64 c) (hn : 1 ≤ n) (hn2 : n ≤ 1000000) (w : World) : Calls Try.prog 8 #[.int .i64 c, .int .i64 (n : Int)] w (fun e w' => e = .returned (.int .i64 (pickN c n : Int)) ∧ Mem w [] w' []) := by
  rw [← pickN_eq hn]
  exact law_pick c n w hc (by omega) (by omega)
theorem map_set_fst {α β : Type} {f : α → β} {l : List α} {k : Nat} {a a' : α} (h : l[k]? = some a) (e : f a' = f a) : (l.set k a').map f = l.map f := by
  rw [List.map_set, e]
  refine set_same ?_
  rw [List.getElem?_map, h]
  rfl
/-- what the step of an event comes to -/
def StepPost (n xb : Nat) (w : World) (X : PxM) (o : Option ByteArray) (w' : World) : Prop :=
  ∃ X' : PxM, Move n X.st o X'.st ∧ Mem w (foots (X.parts n xb)) w' (X'.parts n xb) ∧ X'.size ≤ X.size + 5 ∧ (∀ q ∈ X'.props, q.2.1 = none → q.2.2.b.r = 0) ∧ X'.tabs.map (·.1) = X.tabs.map (·.1) ∧ X'.learns.map (·.1) = X.learns.map (·.1)
end Go.Proofs.Ytkhpikjmhamppaa
