/- WALK: the live question of the votes' laws: it answers true. -/
import Derived.Test.YteheajddplkmdaaDecide
set_option linter.unusedVariables false
set_option linter.unusedSimpArgs false
namespace Go.Proofs.Yteheajddplkmdaa
open Go.RowKit Go.Tk

theorem cell_of_heap {W : World} {b i : Nat} {cs : Array Value} {t : TypeId} {fr : Nat × Nat} (h : W.heap[b]? = some (.cells cs t fr)) : W.cell? ⟨b, i, none⟩ = cs[i]? := by simp [World.cell?, h]
theorem lt_of_heap {W : World} {b : Nat} {o : Obj} (h : W.heap[b]? = some o) : b < W.heap.size := (Array.getElem?_eq_some_iff.1 h).1
theorem hp_new {w : World} {o : Obj} {n : Nat} (h : n = w.heap.size) : (w.alloc o).heap[n]? = some o := by subst h; exact heap_alloc_new w o
theorem hp_alloc {w : World} {o : Obj} {b : Nat} (o' : Obj) (h : w.heap[b]? = some o) : (w.alloc o').heap[b]? = some o := (Below.heap_alloc w o' b (lt_of_heap h)).trans h
theorem hp_ext {w : World} {o : Obj} {b : Nat} {x : Ext} (h : w.heap[b]? = some o) : (w.ext x).heap[b]? = some o := (heap_ext (lt_of_heap h)).trans h
def liveItem : ItemR := ⟨3, 0, false, .slice none 0 0, [], fun _ => 1⟩
theorem live_any (W : World) (b v : Nat) (x0 x1 x2 x3 : Int)
    (hB : W.heap[b]? = some (.cells #[.int .i64 3, .int .u32 0, .bool false, .slice none 0 0, .int .u32 1, .int .u32 1, .int .u32 1, .int .u32 1] 43))
    (hV : W.heap[v]? = some (.cells #[.int .i64 x0, .int .i64 x1, .int .i64 x2, .int .i64 x3] 35)) :
    Calls Try.prog 9 #[.agg #[.int .u64 1, .int .i64 0, .int .i64 0, .int .i64 1, .int .i64 2, .slice (some ⟨b, 0, none⟩) 1 1], .slice (some ⟨v, 0, none⟩) 1 1] W
      (Decided W (decide18 true 1 1 (fun _ k => if k = 0 then x0 else if k = 1 then x1 else if k = 2 then x2 else x3) (fun _ _ => 1))) := by
  have h := votes_Decide ⟨1, 0, 0, 1, 2, .slice (some ⟨b, 0, none⟩) 1 1, [liveItem]⟩ (.slice (some ⟨v, 0, none⟩) 1 1) 1 (fun _ k => if k = 0 then x0 else if k = 1 then x1 else if k = 2 then x2 else x3) W
    ⟨by simp, _, _, rfl, fun i x hx => by
      have hi : i = 0 := by
        have := (List.getElem?_eq_some_iff.1 hx).1
        simp at this; omega
      subst hi
      obtain rfl : liveItem = x := by simpa using hx
      refine ⟨⟨by decide, by simp [liveItem], none, 0, rfl, fun i e he => by simp [liveItem] at he⟩, b, 0, rfl, lt_of_heap hB, ?_⟩
      simp [cell_of_heap hB, liveItem]⟩
    ⟨rfl, rfl, rfl⟩
    ⟨by decide, _, _, rfl, fun i hi => by
      obtain rfl : i = 0 := by omega
      refine ⟨v, 0, rfl, lt_of_heap hV, ?_⟩
      simp [cell_of_heap hV]⟩
  have e1 : TxR.right ⟨1, 0, 0, 1, 2, .slice (some ⟨b, 0, none⟩) 1 1, [liveItem]⟩ = true := by
    simp [TxR.right, nodeOk, itemsOk, itemOkAt, liveItem, ItemR.right, zeros]
  have e2 : decide18 true 1 1 (fun _ k => if k = 0 then x0 else if k = 1 then x1 else if k = 2 then x2 else x3) (incsOf [liveItem]) =
      decide18 true 1 1 (fun _ k => if k = 0 then x0 else if k = 1 then x1 else if k = 2 then x2 else x3) (fun _ _ => 1) := by
    simp [decide18, rowsOk, prep, sunk, incsOf, liveItem, List.range_succ]
  rw [e1] at h
  simp only [List.length_singleton] at h
  rw [e2] at h
  exact h

set_option maxRecDepth 100000 in
set_option maxHeartbeats 1000000 in
theorem law_alive (w : World) : Calls Try.prog 11 #[] w (Gives w (.bool true)) := by
  have v1 : decide18 true 1 1 (fun _ k => if k = 0 then 1 else if k = 1 then 1 else if k = 2 then 1 else 0) (fun _ _ => 1) = (1, 0) := by decide
  have v2 : decide18 true 1 1 (fun _ k => if k = 0 then 1 else if k = 1 then 1 else if k = 2 then 2 else 2) (fun _ _ => 1) = (2, 0) := by decide
  have v3 : decide18 true 1 1 (fun _ k => if k = 0 then 1 else if k = 1 then 1 else if k = 2 then 2 else 0) (fun _ _ => 1) = (0, 0) := by decide
  have V1 := Lib.hid v1
  have V2 := Lib.hid v2
  have V3 := Lib.hid v3
  clear v1 v2 v3
  obtain ⟨q1, q2, q3, q4, q5, q6⟩ := roomy (b := w.heap.size + 1) (s := w.heap.size + 2) (by omega)
  go_enter Try.func11, Try.ntmps11
  go_wp2_with fail
  refine (live_any _ w.heap.size (w.heap.size + 1 + 1) 1 1 1 0 (hp_alloc _ (hp_alloc _ (hp_new rfl))) (hp_new (by simp))).mono ?_
  rw [V1.out]
  rintro e w1 ⟨rfl, y, rfl⟩
  go_wp2_with fail
  refine (live_any _ w.heap.size (w.heap.size + 1 + 1 + 1 + y.objs.size) 1 1 2 2 (hp_alloc _ (hp_ext (hp_alloc _ (hp_alloc _ (hp_new rfl))))) (hp_new (by simp [size_ext]))).mono ?_
  rw [V2.out]
  rintro e w1 ⟨rfl, y2, rfl⟩
  go_wp2_with fail
  refine (live_any _ w.heap.size _ 1 1 2 0 (hp_alloc _ (hp_ext (hp_alloc _ (hp_ext (hp_alloc _ (hp_alloc _ (hp_new rfl))))))) (hp_new (by simp [size_ext]))).mono ?_
  rw [V3.out]
  rintro e w1 ⟨rfl, y3, rfl⟩
  go_wp2_with fail
  go_ret
  exact .mk rfl (below_of_ext (Below.alloc (below_of_ext (Below.alloc (below_of_ext (Below.alloc (Below.alloc ((Below.refl _ _).alloc (Nat.le_refl _) _) (by (try simp only [World.size_alloc, size_ext, World.size_setCell]); omega) _) (by (try simp only [World.size_alloc, size_ext, World.size_setCell]); omega) _) (by (try simp only [World.size_alloc, size_ext, World.size_setCell]); omega)) (by (try simp only [World.size_alloc, size_ext, World.size_setCell]); omega) _) (by (try simp only [World.size_alloc, size_ext, World.size_setCell]); omega)) (by (try simp only [World.size_alloc, size_ext, World.size_setCell]); omega) _) (by (try simp only [World.size_alloc, size_ext, World.size_setCell]); omega))
end Go.Proofs.Yteheajddplkmdaa
