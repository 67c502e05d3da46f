/- WALK: the nodes that are watched, sorted (Peers): slices.Sorted(maps.Keys(m)) of a map with int keys, by the library's contracts. -/
import Derived.Test.YtomcekjhehceoaaSesN20
import Derived.Shelf.SlIterI.Nil
import Derived.Shelf.SortM.Plain
import Derived.Shelf.SortM.SortNone
import Derived.Ground.GgzProg
import Derived.Ground.SlgmProg
set_option linter.unusedVariables false
set_option linter.unusedSimpArgs false
namespace Go.Proofs.Ytomcekjhehceoaa
open Go.RowKit Go.Tk Go.Maps Go.Sort Go.Shelf
theorem mapAt_owns {V : Type} {vv : V → Value} {w : World} {b : Nat} {m : List (Int × V)} (h : MapAt intK vv w b m) (hsz : m.length ≤ maxLen) :
    ∃ D : DataW Unit, w.ownsMap Try.prog 3 (fun _ => some (.nil, [])) b m.length D ∧ Maps.size D = m.length ∧ (intKeys D).Perm (keysOf m) := by
  obtain ⟨es, c, hb, hes, hok, hnd, hst⟩ := h
  have hlen : es.toList.length = m.length := by
    have := congrArg List.length hes
    simpa using this
  have hkey : ∀ e ∈ es.toList, ∃ k : Int, keyOf Try.prog 3 e.key = some (.int .i64 k) ∧ e.key = .int .i64 k := by
    intro e he
    have : (e.key, e.val) ∈ m.map (fun p => (intK.kv p.1, vv p.2)) := hes ▸ List.mem_map_of_mem (f := fun e : MapEntry => (e.key, e.val)) he
    obtain ⟨p, hp, e1⟩ := List.mem_map.1 this
    simp only [Prod.mk.injEq] at e1
    refine ⟨p.1, ?_, e1.1.symm⟩
    rw [← e1.1]
    exact Maps.keyOf_int_mk Try.underlying3 (hok p hp)
  have hrg : ∀ e ∈ es.toList, Go.WideElems.rg Try.prog 3 (fun _ => some ((.nil : DataW Unit), [])) e = (.int .i64 (match e.key with | .int _ k => k | _ => 0), .nil) := by
    intro e he
    obtain ⟨k, h1, h2⟩ := hkey e he
    have := Go.WideElems.rd_mk (P := Try.prog) (k := 3) (R := fun _ => some ((.nil : DataW Unit), [])) (val := e.val) (born := e.born) h1 (yv := ((.nil : DataW Unit), [])) rfl
    have hrd : Go.WideElems.rd Try.prog 3 (fun _ => some ((.nil : DataW Unit), [])) e = some (.int .i64 k, .nil) := this
    rw [Go.WideElems.rg_of hrd, h2]
  refine ⟨.map ((es.toList.map (Go.WideElems.rg Try.prog 3 (fun _ => some (.nil, [])))).foldr DataW.insert []), ⟨es, c, hb, ⟨?_, hst, ?_⟩, ?_, rfl⟩, ?_, ?_⟩
  · have : es.size = m.length := by simpa using hlen
    omega
  · intro x hx
    obtain ⟨k, h1, h2⟩ := hkey x hx
    exact ⟨_, Go.WideElems.rd_mk (val := x.val) (born := x.born) h1 rfl⟩
  · have : es.size = m.length := by simpa using hlen
    omega
  · rw [Maps.size_eq, (Go.WideShapes.sorted_perm _).length_eq, List.length_map]
    exact hlen
  · show (List.map _ _).Perm _
    refine ((Go.WideShapes.sorted_perm _).map _).trans ?_
    rw [List.map_map]
    have e1 : List.map ((fun p : Lit × DataW Unit => Go.intOf p.1) ∘ Go.WideElems.rg Try.prog 3 (fun _ => some (.nil, []))) es.toList = keysOf m := by
      have e2 : keysOf m = (m.map (fun p => (intK.kv p.1, vv p.2))).map (fun q => match q.1 with | .int _ k => k | _ => 0) := by
        rw [List.map_map]
        rfl
      rw [e2, ← hes, List.map_map]
      apply List.map_congr_left
      intro e he
      simp only [Function.comp]
      rw [hrg e he]
      rfl
    rw [e1]
shelf_lay_g SlLaysZI.n7 Ggz 7 at Try 33 as keysA
shelf_lay_g SlLaysZI.n6 Ggz 6 at Try 32 as sortedA
shelf_lay_g SlLaysM.n5 Slgm 5 at Try 48 as sortA
theorem sortsA (m : Nat) : AnyZI.SortsIn Try.prog sortedA_ren Fence.wide m :=
  ⟨fun blk off cap ss W hH hblk hsz => callsIn_wide.2 (AnyM.slices_Sort_int sortA blk off cap ss W hH hblk hsz),
   fun p cap W => callsIn_wide.2 (AnyM.slices_Sort_int_none sortA p cap W)⟩
def leB (x y : Int) : Bool := decide (x ≤ y)
/-- maps.Keys(m): a function value -/
theorem c_Keys (mb : Option Nat) (W : World) : Calls Try.prog 33 #[.map mb] W (fun e w' => e = .returned (.func (.func 49) #[] #[.pointer (some ⟨W.heap.size, 0, none⟩)]) ∧ w' = W.alloc (.cells #[.map mb] 75)) :=
  (callsIn_wide (n := 5)).1 (AnyZI.keys_in keysA Fence.wide 5 trivial rfl mb W)
/-- slices.Sorted of it -/
theorem c_Sorted {V : Type} {vv : V → Value} (w : World) (b : Nat) (m : List (Int × V)) (h : MapAt intK vv w b m) (hsz : m.length ≤ 1000000) :
    Calls Try.prog 32 #[.func (.func 49) #[] #[.pointer (some ⟨w.heap.size, 0, none⟩)]] (w.alloc (.cells #[.map (some b)] 75)) (fun e w' => ∃ (A : Option Addr) (c : Nat), e = .returned (.slice A ((keysOf m).mergeSort leB).length c) ∧ Mem (w.alloc (.cells #[.map (some b)] 75)) [] w' [listA 3 1 intCells A c ((keysOf m).mergeSort leB)]) := by
  obtain ⟨D, hown, hD, hperm⟩ := mapAt_owns h (by unfold maxLen; omega)
  have hbl := hown.lt
  have hmax : Maps.size D ≤ maxLen := by rw [hD]; unfold maxLen; omega
  have hbytes : Maps.size D * 8 ≤ 140737488355328 := by rw [hD]; omega
  have hseq : SeqGives Fence.wide 2 Try.prog 49 #[.pointer (some ⟨w.heap.size, 0, none⟩)] encZ (fun ss => ss.Perm (intKeys D)) (Maps.size D) (w.alloc (.cells #[.map (some b)] 75)) :=
    AnyZI.keys_gives (ρ := keysA_ren) { keysA with } Fence.wide _ trivial rfl (by omega) w.heap.size b m.length D _ (by simp) (by simp) (by
      obtain ⟨es, clock, hb, Ft, hs, hD⟩ := hown
      exact ⟨es, clock, (Below.heap_alloc _ _ b hbl).trans hb, Ft, hs, hD⟩)
  have cS := AnyZI.sorted_in sortedA Fence.wide 5 trivial trivial trivial trivial rfl (by omega) (sortsA _) (enters_of Try.func48 (by kernel_rfl) rfl) 49 #[.pointer (some ⟨w.heap.size, 0, none⟩)] trivial (enters_of Try.func49 (by kernel_rfl) rfl) _ _ hmax hbytes _ hseq
  change CallsIn _ _ Try.prog 32 _ _ _ at cS
  refine ((callsIn_wide (n := 5)).1 cS).mono ?_
  rintro e w' ⟨v, ss, rfl, hS, hrow, hnil, hb⟩
  have hss : ss.mergeSort (fun x y => decide (x ≤ y)) = (keysOf m).mergeSort leB := mergeSort_of_perm_i (hS.trans hperm)
  rw [hss] at hrow
  have hl : ss.length = ((keysOf m).mergeSort leB).length := by rw [← hss, List.length_mergeSort]
  have hfm : ((keysOf m).mergeSort leB).map encZ = ((keysOf m).mergeSort leB).flatMap intCells := by
    generalize (keysOf m).mergeSort leB = L
    induction L with
    | nil => rfl
    | cons x L ih => simp [intCells, ih, encZ]
  rw [hl, hfm] at hrow
  generalize (keysOf m).mergeSort leB = L at hrow ⊢
  generalize w.alloc (.cells #[.map (some b)] 75) = w1 at hrow hb ⊢
  have hrow0 := ownsRow_mono hrow (Nat.zero_le _)
  rcases hrow.2 with ⟨h1, h2⟩ | ⟨g, cap, cur, hv, hg, hh, r1, r2, r3, r4⟩
  · have hL : L = [] := List.length_eq_zero_iff.1 h2
    subst hL
    exact ⟨none, 0, by rw [h1]; rfl, Mem.listNil (Mem.begin.after hb)⟩
  · refine ⟨some ⟨g, 0, none⟩, cap, by rw [hv], ⟨Fr.of_below hb, ?_, ?_, ?_, ?_⟩⟩
    · intro A hA
      simp only [List.mem_singleton] at hA
      subst hA
      rw [listA_holds, ← hv]
      exact hrow0
    · intro k hk
      simp only [foots_cons, foots_nil, foot_listA, afoot, List.append_nil, List.mem_singleton] at hk
      subst hk
      exact (Array.getElem?_eq_some_iff.1 hh).1
    · intro k hk
      simp only [foots_cons, foots_nil, foot_listA, afoot, List.append_nil, List.mem_singleton] at hk
      subst hk
      exact .inr hg
    · simp [foot_listA, afoot]
end Go.Proofs.Ytomcekjhehceoaa
