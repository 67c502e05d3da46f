/- WALKS: the live question of the acceptor's laws: it answers true; and what no table answers. -/
import Derived.Test.YtbpanhmpffjmfaaAccAcc
import Derived.Test.YtbpanhmpffjmfaaAccGet
set_option linter.unusedVariables false
set_option linter.unusedSimpArgs false
namespace Go.Proofs.Ytbpanhmpffjmfaa
open Go.RowKit Go.Tk

def i0 : Inst := ⟨0, 0, 0, 0⟩
theorem i0wf : i0.wf := ⟨rfl, rfl, rfl, rfl⟩
theorem Tab.alloc {w : World} {tb mb : Nat} {most : Int} {m : Rows10} (h : Tab w tb mb most m) (o : Obj) : Tab (w.alloc o) tb mb most m := h.kept (Kept.refl.alloc o) (h.2.2.2.alloc o)
theorem Tab.ext {w : World} {tb mb : Nat} {most : Int} {m : Rows10} (h : Tab w tb mb most m) (x : Ext) : Tab (w.ext x) tb mb most m := h.kept (Kept.refl.ext x) h.2.2.2.ext
set_option maxRecDepth 100000 in
set_option maxHeartbeats 2000000 in
theorem law_alive (w : World) : Calls Try.prog 9 #[] w (fun e w' => e = .returned (.bool true) ∧ Below w.heap.size w w') := by
  have v1 : prepare10 2 [] i0 ⟨2, 1⟩ = (noA, ⟨2, 1⟩, true, 0, [(i0, ⟨⟨2, 1⟩, noA⟩)]) := rfl
  have v2 : accept10 2 [(i0, ⟨⟨2, 1⟩, noA⟩)] i0 ⟨1, 9⟩ ⟨#[97]⟩ = (⟨2, 1⟩, false, 0, [(i0, ⟨⟨2, 1⟩, noA⟩)]) := rfl
  have v3 : accept10 2 [(i0, ⟨⟨2, 1⟩, noA⟩)] i0 ⟨2, 1⟩ ⟨#[98]⟩ = (⟨2, 1⟩, true, 0, [(i0, ⟨⟨2, 1⟩, ⟨true, ⟨2, 1⟩, ⟨#[98]⟩⟩⟩)]) := rfl
  have v4 : get10 [(i0, ⟨⟨2, 1⟩, ⟨true, ⟨2, 1⟩, ⟨#[98]⟩⟩⟩)] i0 = (⟨2, 1⟩, ⟨true, ⟨2, 1⟩, ⟨#[98]⟩⟩, 0) := rfl
  have c1 := Lib.hid (fun W tb mb (h : Tab W tb mb 2 []) => acc_Prepare W tb mb 2 [] i0 ⟨2, 1⟩ h i0wf)
  have c2 := Lib.hid (fun W tb mb h => acc_Accept W tb mb 2 [(i0, ⟨⟨2, 1⟩, noA⟩)] i0 ⟨1, 9⟩ ⟨#[97]⟩ h i0wf)
  have c3 := Lib.hid (fun W tb mb h => acc_Accept W tb mb 2 [(i0, ⟨⟨2, 1⟩, noA⟩)] i0 ⟨2, 1⟩ ⟨#[98]⟩ h i0wf)
  have c4 := Lib.hid (fun W tb mb h => acc_Get W tb mb 2 [(i0, ⟨⟨2, 1⟩, ⟨true, ⟨2, 1⟩, ⟨#[98]⟩⟩⟩)] i0 h i0wf)
  rw [v1] at c1
  rw [v2] at c2
  rw [v3] at c3
  rw [v4] at c4
  clear v1 v2 v3 v4
  simp only [Inst.val, i0, Ballot.val, Acc.val, noA, noB, ByteArray.empty] at c1 c2 c3 c4
  go_enter Try.func9, Try.ntmps9
  go_wp2_with fail
  refine (acc_New 2 _ (by omega)).mono ?_
  rintro e w1 ⟨rfl, hb1, ht1⟩
  have hl1 := ht1.2.2.1
  have B1 := Lib.hid hb1
  have T1 := Lib.hid ht1
  clear hb1 ht1
  go_wp2_with fail
  refine (c1.out _ _ _ (T1.out.alloc _)).mono ?_
  rintro e w2 ⟨rfl, hk2, hm2⟩
  have T2 := Lib.hid ((T1.out.alloc _).kept hk2 hm2)
  have B2 := Lib.hid (hk2.below (B1.out.alloc (by (try simp only [World.size_alloc, size_ext, World.size_setCell]); omega) _) (Nat.le_refl _) (by (try simp only [World.size_alloc, size_ext, World.size_setCell]); omega))
  have hx2 := hk2.heap (hp_new rfl) (show w1.heap.size ≠ w.heap.size by omega)
  have hs2 := hk2.size
  simp only [World.size_alloc] at hs2
  clear hk2 hm2 T1 B1 c1
  go_wp2_with fail
  refine (c2.out _ _ _ ((T2.out.alloc _).alloc _)).mono ?_
  rintro e w3 ⟨rfl, hk3, hm3⟩
  have T3 := Lib.hid (((T2.out.alloc _).alloc _).kept hk3 hm3)
  have B3 := Lib.hid (hk3.below ((B2.out.alloc (by (try simp only [World.size_alloc, size_ext, World.size_setCell]); omega) _).alloc (by (try simp only [World.size_alloc, size_ext, World.size_setCell]); omega) _) (Nat.le_refl _) (by (try simp only [World.size_alloc, size_ext, World.size_setCell]); omega))
  have hx3 := hk3.heap (hp_alloc _ (hp_alloc _ hx2)) (show w1.heap.size ≠ w.heap.size by omega)
  have hs3 := hk3.size
  simp only [World.size_alloc] at hs3
  have hl3 := lt_of_heap hx3
  have hc3 := fun j => cell_of_heap (i := j) hx3
  have c30 := (hc3 0).trans rfl
  have c31 := (hc3 1).trans rfl
  simp only [List.getElem?_toArray, List.getElem?_cons_zero, List.getElem?_cons_succ] at c30 c31
  have HX3 := Lib.hid hx3
  clear hk3 hm3 T2 B2 c2 hx2 hx3 hc3
  go_wp2_with fail
  refine (c3.out _ _ _ (T3.out.alloc _)).mono ?_
  rintro e w4 ⟨rfl, hk4, hm4⟩
  have T4 := Lib.hid ((T3.out.alloc _).kept hk4 hm4)
  have B4 := Lib.hid (hk4.below (B3.out.alloc (by (try simp only [World.size_alloc, size_ext, World.size_setCell]); omega) _) (Nat.le_refl _) (by (try simp only [World.size_alloc, size_ext, World.size_setCell]); omega))
  have hx4 := hk4.heap (hp_alloc _ HX3.out) (show w1.heap.size ≠ w.heap.size by omega)
  have hs4 := hk4.size
  simp only [World.size_alloc] at hs4
  have hl4 := lt_of_heap hx4
  have hc4 := fun j => cell_of_heap (i := j) hx4
  have c40 := (hc4 0).trans rfl
  have c41 := (hc4 1).trans rfl
  simp only [List.getElem?_toArray, List.getElem?_cons_zero, List.getElem?_cons_succ] at c40 c41
  obtain ⟨r1, r2, r3, r4, r5, r6⟩ := roomy hl4
  clear hk4 hm4 T3 B3 c3 HX3 hx4 hc4
  go_wp2_with fail
  refine (c4.out _ _ _ (T4.out.alloc _)).mono ?_
  rintro e w5 ⟨rfl, y, rfl⟩
  go_wp2
  go_ret
  exact ⟨by simp, ((((B4.out.alloc (by (try simp only [World.size_alloc, size_ext, World.size_setCell]); omega) _).trans (below_ext.mono (by (try simp only [World.size_alloc, size_ext, World.size_setCell]); omega))).alloc (by (try simp only [World.size_alloc, size_ext, World.size_setCell]); omega) _).alloc (by (try simp only [World.size_alloc, size_ext, World.size_setCell]); omega) _)⟩
end Go.Proofs.Ytbpanhmpffjmfaa
